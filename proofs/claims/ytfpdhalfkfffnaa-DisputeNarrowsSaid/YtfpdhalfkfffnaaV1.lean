import Derived.Test.YtfpdhalfkfffnaaW2
namespace Go.Proofs.Ytfpdhalfkfffnaa
open Go.RowKit
set_option linter.unusedVariables false
set_option linter.unusedSimpArgs false
set_option linter.unnecessarySimpa false

def commonL (a b : SpanS) : SpanS := ⟨max a.lo b.lo, min a.hi b.hi⟩
def withinL (a b : SpanS) : Bool := decide (b.lo ≤ a.lo) && decide (a.lo ≤ a.hi) && decide (a.hi ≤ b.hi)

theorem within_cases (a b : SpanS) : (withinL a b = false ∧ a.lo < b.lo) ∨ (withinL a b = false ∧ b.lo ≤ a.lo ∧ a.hi < a.lo) ∨ (withinL a b = false ∧ b.lo ≤ a.lo ∧ a.lo ≤ a.hi ∧ b.hi < a.hi) ∨ (withinL a b = true ∧ b.lo ≤ a.lo ∧ a.lo ≤ a.hi ∧ a.hi ≤ b.hi) := by
  simp only [withinL, Bool.and_eq_false_iff, decide_eq_false_iff_not, Bool.and_eq_true, decide_eq_true_eq]
  omega
set_option maxHeartbeats 400000 in
theorem within_c (a b : SpanS) (w : World) : Calls Try.prog 22 #[SV a, SV b] w (Ret w (.bool (withinL a b))) := by
  obtain ⟨al, ah⟩ := a
  obtain ⟨bl, bh⟩ := b
  rcases within_cases ⟨al, ah⟩ ⟨bl, bh⟩ with ⟨h, h1⟩ | ⟨h, h1, h2⟩ | ⟨h, h1, h2, h3⟩ | ⟨h, h1, h2, h3⟩
  all_goals
    rw [h]
    clear h
    simp only at *
    go_enter Try.func22, Try.ntmps22
    go_wp2
    go_ret
    refine ⟨by first | rfl | (congr 2; simp; omega), ?_⟩
    repeat (first | with_reducible exact (Below.refl _ _) | with_reducible refine Below.setCell ?_ ?_ _ | with_reducible refine Below.alloc ?_ ?_ _ | with_reducible refine Below.drew ?_ | with_reducible refine below_drewN ?_ _ | omega | (simp <;> omega))
set_option maxHeartbeats 400000 in
theorem right_c (e : EvS) (w : World) : Calls Try.prog 24 #[.agg #[.int .i64 e.ride, .int .i64 e.end_.lo, .int .i64 e.end_.hi]] w (Ret w (.bool (validL e.end_))) := by
  obtain ⟨ri, lo, hi⟩ := e
  rcases valid_cases ⟨lo, hi⟩ with ⟨h, h1⟩ | ⟨h, h1, h2⟩ | ⟨h, h1, h2, h3⟩ | ⟨h, h1, h2, h3⟩
  all_goals
    simp only at *
    rw [h]
    clear h
    go_enter Try.func24, Try.ntmps24
    go_wp2
    go_ret
    refine ⟨by first | rfl | (congr 2; simp; omega), ?_⟩
    repeat (first | with_reducible exact (Below.refl _ _) | with_reducible refine Below.setCell ?_ ?_ _ | with_reducible refine Below.alloc ?_ ?_ _ | with_reducible refine Below.drew ?_ | with_reducible refine below_drewN ?_ _ | omega | (simp <;> omega))
set_option maxHeartbeats 400000 in
theorem common_c (a b : SpanS) (w : World) : Calls Try.prog 33 #[SV a, SV b] w (Ret w (SV (commonL a b))) := by
  go_enter Try.func33, Try.ntmps33
  go_wp2
  all_goals
    refine bodyPost_ret (v := SV (commonL a b)) ?_ rfl ⟨rfl, by repeat (first | with_reducible exact (Below.refl _ _) | with_reducible refine Below.setCell ?_ ?_ _ | with_reducible refine Below.alloc ?_ ?_ _ | with_reducible refine Below.drew ?_ | with_reducible refine below_drewN ?_ _ | omega | (simp <;> omega))⟩
    simp_all [results, Try.results33, go_sem, commonL]
    try omega
end Go.Proofs.Ytfpdhalfkfffnaa
