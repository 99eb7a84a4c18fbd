/-
  The Go function TopEvidence returns true for every input, and every argument reads behind the call as it read before: no condition beyond the given row's own.
-/
import Derived.Test.YthgnbkcopapbmaaRows
import Derived.Test.YthgnbkcopapbmaaGe
namespace Go.Proofs.Ythgnbkcopapbmaa
open Go.ChangeShapes Go.WideShapes Go.ChangeAt Go.RowKit
set_option linter.unusedVariables false
set_option linter.unusedSimpArgs false
set_option linter.unnecessarySimpa false
namespace topEvidenceL
theorem ownK : ownKnob Try.prog.godebug = none := by kernel_rfl
theorem laidO : laidOutB Try.prog = true := by kernel_rfl
theorem cl32 : clOf Try.prog 20 32 = some RideS.cl := by kernel_rfl
theorem rw32 : (Try.prog.underlying 32).map rowT = some true := by kernel_rfl
theorem cl42 : clOf Try.prog 20 42 = some [.sl true EvS.cl] := by kernel_rfl
theorem rw42 : (Try.prog.underlying 42).map rowT = some false := by kernel_rfl
theorem cl3 : clOf Try.prog 20 3 = some [.i .i64] := by kernel_rfl
theorem rw3 : (Try.prog.underlying 3).map rowT = some false := by kernel_rfl
theorem cl44 : clOf Try.prog 20 44 = some TariffS.cl := by kernel_rfl
theorem rw44 : (Try.prog.underlying 44).map rowT = some true := by kernel_rfl
theorem shaped {p0 : PV} (h0 : HasV true RideS.cl p0) {p1 : PV} (h1 : HasV false [.sl true EvS.cl] p1) {p2 : PV} (h2 : HasV false [.i .i64] p2) {p3 : PV} (h3 : HasV true TariffS.cl p3) : Good Try.prog 4 [p0, p1, p2, p3] (.sc (.bool true)) := by
  obtain ⟨_, rfl, g⟩ := h0.row; obtain ⟨x0, e⟩ := RideS.of_cl g; rw [e]; clear e g
  obtain ⟨x1, rfl⟩ := HasC.sl_inv (fun _ => EvS.of_cl) h1.one
  obtain ⟨x2, rfl⟩ := h2.one.int_inv
  obtain ⟨_, rfl, g⟩ := h3.row; obtain ⟨x3, e⟩ := TariffS.of_cl g; rw [e]; clear e g
  exact topEvidence_good x0 x1 x2 x3
set_option maxRecDepth 100000 in
theorem lifted (os : Os) (started : os.Started) (H : Type) (enc : TypeId × Value → H) :
    ReturnsInHanded {} Try.checked os 4 .any (Rows.topEvidenceSpec.pre6 enc Try.prog Try.f4 Rows.topEvidenceRow.domain false) (Rows.topEvidenceSpec.post enc Try.prog Try.f4 false true false false) := by
  refine returnsInHanded_of_change (C := Try.checked) ownK started (by kernel_rfl) Try.func4
    (ChangeSpec.witness6 (enc := enc) (C := Try.checked) false ⟨#[], #[.agg #[.int .i64 0, .int .i64 0, .int .i64 0, .int .i64 0, .int .i64 0, .int .i64 0, .bool false, .slice none 0 0, .slice none 0 0, .int .i64 0, .int .i64 0, .int .i64 0, .int .i64 0], .slice none 0 0, .int .i64 0, .agg #[.int .i64 0, .int .i64 0, .int .i64 0, .int .i64 0, .int .i64 0, .int .i64 0]], []⟩ 8 (by kernel_rfl) (by kernel_rfl) (by kernel_rfl) (by kernel_rfl)) ?_
  intro W base args ds gs before hval0 hW hcnd _
  have hval : ∀ (j : Nat) t v, Try.f4.params[j]? = some t → args[j]? = some v → Value.okWide Try.prog W .any base t v := hval0
  have hW' := hW
  obtain ⟨p, q, hA0, hV, rfl, hfz, hnd⟩ := hW
  have hA : DataW.TrodAll enc Try.prog W 0 (fun _ => true) true Try.f4.params.toList args.toList ds p := hA0
  rw [Try.params4] at hA hval
  obtain ⟨v0, vs0, d0, ds0, p0, q0, hargs, rfl, rfl, h0, r0⟩ := trodAll_cons hA
  obtain ⟨v1, vs1, d1, ds1, p1, q1, rfl, rfl, rfl, h1, r1⟩ := trodAll_cons r0
  obtain ⟨v2, vs2, d2, ds2, p2, q2, rfl, rfl, rfl, h2, r2⟩ := trodAll_cons r1
  obtain ⟨v3, vs3, d3, ds3, p3, q3, rfl, rfl, rfl, h3, r3⟩ := trodAll_cons r2
  obtain ⟨rfl, rfl, rfl⟩ := trodAll_nil r3
  obtain rfl : args = #[v0, v1, v2, v3] := by cases args; simp_all
  obtain ⟨rfl, rfl⟩ := trodVars_none hV
  obtain ⟨g0, s0, e0⟩ := arg_open cl32 rw32 (hval 0 32 v0 rfl rfl) h0
  have lt0 : ∀ x ∈ p0, x.block < W.heap.size := by obtain ⟨m, hm⟩ := h0; exact DataW.trod_lt m _ _ _ hm
  obtain ⟨g1, s1, e1⟩ := arg_open cl42 rw42 (hval 1 42 v1 rfl rfl) h1
  have lt1 : ∀ x ∈ p1, x.block < W.heap.size := by obtain ⟨m, hm⟩ := h1; exact DataW.trod_lt m _ _ _ hm
  obtain ⟨g2, s2, e2⟩ := arg_open cl3 rw3 (hval 2 3 v2 rfl rfl) h2
  have lt2 : ∀ x ∈ p2, x.block < W.heap.size := by obtain ⟨m, hm⟩ := h2; exact DataW.trod_lt m _ _ _ hm
  obtain ⟨g3, s3, e3⟩ := arg_open cl44 rw44 (hval 3 44 v3 rfl rfl) h3
  have lt3 : ∀ x ∈ p3, x.block < W.heap.size := by obtain ⟨m, hm⟩ := h3; exact DataW.trod_lt m _ _ _ hm
  clear hA0 hval0
  refine ((shaped s0 s1 s2 s3).ret (w := W) (vs := [v0, v1, v2, v3]) (pw_cons.2 ⟨_, _, rfl, e0, pw_cons.2 ⟨_, _, rfl, e1, pw_cons.2 ⟨_, _, rfl, e2, pw_cons.2 ⟨_, _, rfl, e3, pw_nil.2 rfl⟩⟩⟩⟩) (fun g hg => by cases hg)).mono fun e W' ⟨he, bel⟩ => ?_
  subst he
  exact ⟨_, rfl, _, _, _, [], _, [], hW', trodAll_mk1 (shut_bool Try.underlying4 _), (trodAll_cons_mk (Below.trod laidO (by kernel_rfl) (of_decide_eq_true (by kernel_rfl)) h0 bel lt0) (trodAll_cons_mk (Below.trod laidO (by kernel_rfl) (of_decide_eq_true (by kernel_rfl)) h1 bel lt1) (trodAll_cons_mk (Below.trod laidO (by kernel_rfl) (of_decide_eq_true (by kernel_rfl)) h2 bel lt2) (trodAll_cons_mk (Below.trod laidO (by kernel_rfl) (of_decide_eq_true (by kernel_rfl)) h3 bel lt3) trodAll_mk0)))), rfl, bel.frame _, fun h => by cases h⟩
theorem over : Rows.topEvidenceRow.holds Try.pinned (OpenSpec.ofChange Rows.topEvidenceSpec) :=
  OpenClaim.holds_of_wide 4 Try.f4 rfl rfl rfl rfl rfl rfl rfl ⟨rfl, rfl, rfl, rfl, rfl⟩ rfl rfl rfl rfl rfl (by kernel_rfl) Try.func4 (by kernel_rfl)
    (of_decide_eq_true (by kernel_rfl)) (by unfold Func.isWrapper; first | (rw [if_pos (by decide +kernel)]; kernel_rfl) | (rw [if_neg (by decide +kernel)]; exact ⟨rfl, rfl⟩))
    (fun os started H enc _ => lifted os started H enc)
theorem proved : Rows.TopEvidenceSaid := over
end topEvidenceL
end Go.Proofs.Ythgnbkcopapbmaa
