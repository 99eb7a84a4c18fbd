/-
  The Go function TopWorkshop returns true for every input, and every argument reads behind the call as it read before: no condition beyond the given row's own.
-/
import Derived.Test.YthgnbkcopapbmaaRows
import Derived.Test.YthgnbkcopapbmaaTd
namespace Go.Proofs.Ythgnbkcopapbmaa
open Go.ChangeShapes Go.WideShapes Go.ChangeAt Go.RowKit
set_option linter.unusedVariables false
set_option linter.unusedSimpArgs false
set_option linter.unnecessarySimpa false
namespace topWorkshopL
theorem ownK : ownKnob Try.prog.godebug = none := by kernel_rfl
theorem laidO : laidOutB Try.prog = true := by kernel_rfl
theorem cl24 : clOf Try.prog 20 24 = some WearS.cl := by kernel_rfl
theorem rw24 : (Try.prog.underlying 24).map rowT = some true := by kernel_rfl
theorem cl25 : clOf Try.prog 20 25 = some [.sl true RideS.cl] := by kernel_rfl
theorem rw25 : (Try.prog.underlying 25).map rowT = some false := by kernel_rfl
theorem cl3 : clOf Try.prog 20 3 = some [.i .i64] := by kernel_rfl
theorem rw3 : (Try.prog.underlying 3).map rowT = some false := by kernel_rfl
theorem shaped {p0 : PV} (h0 : HasV true WearS.cl p0) {p1 : PV} (h1 : HasV false [.sl true RideS.cl] p1) {p2 : PV} (h2 : HasV false [.i .i64] p2) {p3 : PV} (h3 : HasV false [.i .i64] p3) {p4 : PV} (h4 : HasV false [.i .i64] p4) {p5 : PV} (h5 : HasV false [.i .i64] p5) : Good Try.prog 3 [p0, p1, p2, p3, p4, p5] (.sc (.bool true)) := by
  obtain ⟨_, rfl, g⟩ := h0.row; obtain ⟨x0, e⟩ := WearS.of_cl g; rw [e]; clear e g
  obtain ⟨x1, rfl⟩ := HasC.sl_inv (fun _ => RideS.of_cl) h1.one
  obtain ⟨x2, rfl⟩ := h2.one.int_inv
  obtain ⟨x3, rfl⟩ := h3.one.int_inv
  obtain ⟨x4, rfl⟩ := h4.one.int_inv
  obtain ⟨x5, rfl⟩ := h5.one.int_inv
  exact topWorkshop_good x0 x1 x2 x3 x4 x5
set_option maxRecDepth 100000 in
theorem lifted (os : Os) (started : os.Started) (H : Type) (enc : TypeId × Value → H) :
    ReturnsInHanded {} Try.checked os 3 .any (Rows.topWorkshopSpec.pre6 enc Try.prog Try.f3 Rows.topWorkshopRow.domain false) (Rows.topWorkshopSpec.post enc Try.prog Try.f3 false true false false) := by
  refine returnsInHanded_of_change (C := Try.checked) ownK started (by kernel_rfl) Try.func3
    (ChangeSpec.witness6 (enc := enc) (C := Try.checked) false ⟨#[], #[.agg #[.slice none 0 0, .slice none 0 0], .slice none 0 0, .int .i64 0, .int .i64 0, .int .i64 0, .int .i64 0], []⟩ 8 (by kernel_rfl) (by kernel_rfl) (by kernel_rfl) (by kernel_rfl)) ?_
  intro W base args ds gs before hval0 hW hcnd _
  have hval : ∀ (j : Nat) t v, Try.f3.params[j]? = some t → args[j]? = some v → Value.okWide Try.prog W .any base t v := hval0
  have hW' := hW
  obtain ⟨p, q, hA0, hV, rfl, hfz, hnd⟩ := hW
  have hA : DataW.TrodAll enc Try.prog W 0 (fun _ => true) true Try.f3.params.toList args.toList ds p := hA0
  rw [Try.params3] at hA hval
  obtain ⟨v0, vs0, d0, ds0, p0, q0, hargs, rfl, rfl, h0, r0⟩ := trodAll_cons hA
  obtain ⟨v1, vs1, d1, ds1, p1, q1, rfl, rfl, rfl, h1, r1⟩ := trodAll_cons r0
  obtain ⟨v2, vs2, d2, ds2, p2, q2, rfl, rfl, rfl, h2, r2⟩ := trodAll_cons r1
  obtain ⟨v3, vs3, d3, ds3, p3, q3, rfl, rfl, rfl, h3, r3⟩ := trodAll_cons r2
  obtain ⟨v4, vs4, d4, ds4, p4, q4, rfl, rfl, rfl, h4, r4⟩ := trodAll_cons r3
  obtain ⟨v5, vs5, d5, ds5, p5, q5, rfl, rfl, rfl, h5, r5⟩ := trodAll_cons r4
  obtain ⟨rfl, rfl, rfl⟩ := trodAll_nil r5
  obtain rfl : args = #[v0, v1, v2, v3, v4, v5] := by cases args; simp_all
  obtain ⟨rfl, rfl⟩ := trodVars_none hV
  obtain ⟨g0, s0, e0⟩ := arg_open cl24 rw24 (hval 0 24 v0 rfl rfl) h0
  have lt0 : ∀ x ∈ p0, x.block < W.heap.size := by obtain ⟨m, hm⟩ := h0; exact DataW.trod_lt m _ _ _ hm
  obtain ⟨g1, s1, e1⟩ := arg_open cl25 rw25 (hval 1 25 v1 rfl rfl) h1
  have lt1 : ∀ x ∈ p1, x.block < W.heap.size := by obtain ⟨m, hm⟩ := h1; exact DataW.trod_lt m _ _ _ hm
  obtain ⟨g2, s2, e2⟩ := arg_open cl3 rw3 (hval 2 3 v2 rfl rfl) h2
  have lt2 : ∀ x ∈ p2, x.block < W.heap.size := by obtain ⟨m, hm⟩ := h2; exact DataW.trod_lt m _ _ _ hm
  obtain ⟨g3, s3, e3⟩ := arg_open cl3 rw3 (hval 3 3 v3 rfl rfl) h3
  have lt3 : ∀ x ∈ p3, x.block < W.heap.size := by obtain ⟨m, hm⟩ := h3; exact DataW.trod_lt m _ _ _ hm
  obtain ⟨g4, s4, e4⟩ := arg_open cl3 rw3 (hval 4 3 v4 rfl rfl) h4
  have lt4 : ∀ x ∈ p4, x.block < W.heap.size := by obtain ⟨m, hm⟩ := h4; exact DataW.trod_lt m _ _ _ hm
  obtain ⟨g5, s5, e5⟩ := arg_open cl3 rw3 (hval 5 3 v5 rfl rfl) h5
  have lt5 : ∀ x ∈ p5, x.block < W.heap.size := by obtain ⟨m, hm⟩ := h5; exact DataW.trod_lt m _ _ _ hm
  clear hA0 hval0
  refine ((shaped s0 s1 s2 s3 s4 s5).ret (w := W) (vs := [v0, v1, v2, v3, v4, v5]) (pw_cons.2 ⟨_, _, rfl, e0, pw_cons.2 ⟨_, _, rfl, e1, pw_cons.2 ⟨_, _, rfl, e2, pw_cons.2 ⟨_, _, rfl, e3, pw_cons.2 ⟨_, _, rfl, e4, pw_cons.2 ⟨_, _, rfl, e5, pw_nil.2 rfl⟩⟩⟩⟩⟩⟩)).mono fun e W' ⟨he, bel⟩ => ?_
  subst he
  exact ⟨_, rfl, _, _, _, [], _, [], hW', trodAll_mk1 (shut_bool Try.underlying4 _), (trodAll_cons_mk (Below.trod laidO (by kernel_rfl) (of_decide_eq_true (by kernel_rfl)) h0 bel lt0) (trodAll_cons_mk (Below.trod laidO (by kernel_rfl) (of_decide_eq_true (by kernel_rfl)) h1 bel lt1) (trodAll_cons_mk (Below.trod laidO (by kernel_rfl) (of_decide_eq_true (by kernel_rfl)) h2 bel lt2) (trodAll_cons_mk (Below.trod laidO (by kernel_rfl) (of_decide_eq_true (by kernel_rfl)) h3 bel lt3) (trodAll_cons_mk (Below.trod laidO (by kernel_rfl) (of_decide_eq_true (by kernel_rfl)) h4 bel lt4) (trodAll_cons_mk (Below.trod laidO (by kernel_rfl) (of_decide_eq_true (by kernel_rfl)) h5 bel lt5) trodAll_mk0)))))), rfl, bel.frame _, fun h => by cases h⟩
theorem over : Rows.topWorkshopRow.holds Try.pinned (OpenSpec.ofChange Rows.topWorkshopSpec) :=
  OpenClaim.holds_of_wide 3 Try.f3 rfl rfl rfl rfl rfl rfl rfl ⟨rfl, rfl, rfl, rfl, rfl⟩ rfl rfl rfl rfl rfl (by kernel_rfl) Try.func3 (by kernel_rfl)
    (of_decide_eq_true (by kernel_rfl)) (by unfold Func.isWrapper; first | (rw [if_pos (by decide +kernel)]; kernel_rfl) | (rw [if_neg (by decide +kernel)]; exact ⟨rfl, rfl⟩))
    (fun os started H enc _ => lifted os started H enc)
theorem proved : Rows.TopWorkshopSaid := over
end topWorkshopL
end Go.Proofs.Ythgnbkcopapbmaa
