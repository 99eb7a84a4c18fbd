/-
  The Go function OperatorChanges returns true for every input, and every argument reads behind the call as it read before: no condition beyond the given row's own.
-/
import Derived.Test.YthekbdjklmellaaRows
import Derived.Test.YthekbdjklmellaaO8
namespace Go.Proofs.Ythekbdjklmellaa
open Go.ChangeShapes Go.WideShapes Go.ChangeAt Go.RowKit
set_option linter.unusedVariables false
set_option linter.unusedSimpArgs false
set_option linter.unnecessarySimpa false
namespace operatorChangesL
theorem ownK : ownKnob Try.prog.godebug = none := by kernel_rfl
theorem laidO : laidOutB Try.prog = true := by kernel_rfl
theorem cl22 : clOf Try.prog 20 22 = some [.sl true ContrS.cl] := by kernel_rfl
theorem rw22 : (Try.prog.underlying 22).map rowT = some false := by kernel_rfl
theorem cl31 : clOf Try.prog 20 31 = some TakeS.cl := by kernel_rfl
theorem rw31 : (Try.prog.underlying 31).map rowT = some true := by kernel_rfl
theorem shaped {p0 : PV} (h0 : HasV false [.sl true ContrS.cl] p0) {p1 : PV} (h1 : HasV true TakeS.cl p1) : Good Try.prog 4 [p0, p1] (.sc (.bool true)) := by
  obtain ⟨x0, rfl⟩ := HasC.sl_inv (fun _ => ContrS.of_cl) h0.one
  obtain ⟨_, rfl, g⟩ := h1.row; obtain ⟨x1, e⟩ := TakeS.of_cl g; rw [e]; clear e g
  exact operatorChanges_good x0 x1
set_option maxRecDepth 100000 in
theorem lifted (os : Os) (started : os.Started) (H : Type) (enc : TypeId × Value → H) :
    ReturnsInHanded {} Try.checked os 4 .any (Rows.operatorChangesSpec.pre6 enc Try.prog Try.f4 Rows.operatorChangesRow.domain false) (Rows.operatorChangesSpec.post enc Try.prog Try.f4 false true false false) := by
  refine returnsInHanded_of_change (C := Try.checked) ownK started (by kernel_rfl) Try.func4
    (ChangeSpec.witness6 (enc := enc) (C := Try.checked) false ⟨#[], #[.slice none 0 0, .agg #[.int .i64 0, .int .i64 0, .int .i64 0, .int .i64 0]], []⟩ 8 (by kernel_rfl) (by kernel_rfl) (by kernel_rfl) (by kernel_rfl)) ?_
  intro W base args ds gs before hval0 hW hcnd _
  have hval : ∀ (j : Nat) t v, Try.f4.params[j]? = some t → args[j]? = some v → Value.okWide Try.prog W .any base t v := hval0
  have hW' := hW
  obtain ⟨p, q, hA0, hV, rfl, hfz, hnd⟩ := hW
  have hA : DataW.TrodAll enc Try.prog W 0 (fun _ => true) true Try.f4.params.toList args.toList ds p := hA0
  rw [Try.params4] at hA hval
  obtain ⟨v0, vs0, d0, ds0, p0, q0, hargs, rfl, rfl, h0, r0⟩ := trodAll_cons hA
  obtain ⟨v1, vs1, d1, ds1, p1, q1, rfl, rfl, rfl, h1, r1⟩ := trodAll_cons r0
  obtain ⟨rfl, rfl, rfl⟩ := trodAll_nil r1
  obtain rfl : args = #[v0, v1] := by cases args; simp_all
  obtain ⟨rfl, rfl⟩ := trodVars_none hV
  obtain ⟨g0, s0, e0⟩ := arg_open cl22 rw22 (hval 0 22 v0 rfl rfl) h0
  have lt0 : ∀ x ∈ p0, x.block < W.heap.size := by obtain ⟨m, hm⟩ := h0; exact DataW.trod_lt m _ _ _ hm
  obtain ⟨g1, s1, e1⟩ := arg_open cl31 rw31 (hval 1 31 v1 rfl rfl) h1
  have lt1 : ∀ x ∈ p1, x.block < W.heap.size := by obtain ⟨m, hm⟩ := h1; exact DataW.trod_lt m _ _ _ hm
  clear hA0 hval0
  refine ((shaped s0 s1).ret (w := W) (vs := [v0, v1]) (pw_cons.2 ⟨_, _, rfl, e0, pw_cons.2 ⟨_, _, rfl, e1, pw_nil.2 rfl⟩⟩)).mono fun e W' ⟨he, bel⟩ => ?_
  subst he
  exact ⟨_, rfl, _, _, _, [], _, [], hW', trodAll_mk1 (shut_bool Try.underlying4 _), (trodAll_cons_mk (Below.trod laidO (by kernel_rfl) (of_decide_eq_true (by kernel_rfl)) h0 bel lt0) (trodAll_cons_mk (Below.trod laidO (by kernel_rfl) (of_decide_eq_true (by kernel_rfl)) h1 bel lt1) trodAll_mk0)), rfl, bel.frame _, fun h => by cases h⟩
theorem over : Rows.operatorChangesRow.holds Try.pinned (OpenSpec.ofChange Rows.operatorChangesSpec) :=
  OpenClaim.holds_of_wide 4 Try.f4 rfl rfl rfl rfl rfl rfl rfl ⟨rfl, rfl, rfl, rfl, rfl⟩ rfl rfl rfl rfl rfl (by kernel_rfl) Try.func4 (by kernel_rfl)
    (of_decide_eq_true (by kernel_rfl)) (by unfold Func.isWrapper; first | (rw [if_pos (by decide +kernel)]; kernel_rfl) | (rw [if_neg (by decide +kernel)]; exact ⟨rfl, rfl⟩))
    (fun os started H enc _ => lifted os started H enc)
theorem proved : Rows.OperatorChangesSaid := over
end operatorChangesL
end Go.Proofs.Ythekbdjklmellaa
