/-
  The Go function DisputeTruth returns true for every input, and every argument reads behind the call as it read before: no condition beyond the given row's own.
-/
import Derived.Test.YtfpdhalfkfffnaaRows
import Derived.Test.YtfpdhalfkfffnaaOpen
import Derived.Test.YtfpdhalfkfffnaaCl
namespace Go.Proofs.Ytfpdhalfkfffnaa
open Go.ChangeShapes Go.WideShapes Go.ChangeAt Go.RowKit
open Go.ChangeMaps (open_string shut_string)
set_option linter.unusedVariables false
set_option linter.unusedSimpArgs false
set_option linter.unnecessarySimpa false
theorem DisputeTruthown : ownKnob Try.prog.godebug = none := by kernel_rfl
theorem DisputeTruthlaid : laidOutB Try.prog = true := by kernel_rfl
theorem disputeTruth_in (x0 : RideS) (a1 : Option Addr) (c1 : Nat) (x1 : List EvS) (x2 : Int) (w : World) (h0 : RideS.ok w x0) (h1 : EvS.sl w a1 c1 x1) (h2 : I64 x2) : Calls Try.prog 6 #[.agg x0.vals.toArray, .slice a1 x1.length c1, .int .i64 x2] w (Ret w (.bool true)) :=
  (disputeTruth_good x0 x1 x2).ret (vs := [.agg x0.vals.toArray, .slice a1 x1.length c1, .int .i64 x2]) (pw_cons.2 ⟨_, _, rfl, RideS.rep0 h0, pw_cons.2 ⟨_, _, rfl, EvS.rep_sl0 h1, pw_cons.2 ⟨_, _, rfl, rep_sc.2 ⟨rfl, rng_i64.2 h2⟩, pw_nil.2 rfl⟩⟩⟩)
namespace disputeTruthL

set_option maxRecDepth 100000 in
theorem lifted (os : Os) (started : os.Started) (H : Type) (enc : TypeId × Value → H) :
    ReturnsInHanded {} Try.checked os 6 .any (Rows.disputeTruthSpec.pre6 enc Try.prog Try.f6 Rows.disputeTruthRow.domain false) (Rows.disputeTruthSpec.post enc Try.prog Try.f6 false true false false) := by
  refine returnsInHanded_of_change (C := Try.checked) DisputeTruthown started (by kernel_rfl) Try.func6
    (ChangeSpec.witness6 (enc := enc) (C := Try.checked) false ⟨#[], #[.agg #[.int .i64 0, .int .i64 0, .int .i64 0, .int .i64 0, .int .i64 0, .int .i64 0, .bool false, .slice none 0 0, .slice none 0 0, .int .i64 0, .int .i64 0, .int .i64 0, .int .i64 0], .slice none 0 0, .int .i64 0], []⟩ 8 (by kernel_rfl) (by kernel_rfl) (by kernel_rfl) (by kernel_rfl)) ?_
  intro W base args ds gs before hval0 hW hcnd _
  have hval : ∀ (j : Nat) t v, Try.f6.params[j]? = some t → args[j]? = some v → Value.okWide Try.prog W .any base t v := hval0
  have hW' := hW
  obtain ⟨p, q, hA0, hV, rfl, hfz, hnd⟩ := hW
  have hA : DataW.TrodAll enc Try.prog W 0 (fun _ => true) true Try.f6.params.toList args.toList ds p := hA0
  rw [Try.params6] at hA hval
  obtain ⟨v0, vs0, d0, ds0, p0, q0, hargs, rfl, rfl, h0, r0⟩ := trodAll_cons hA
  obtain ⟨v1, vs1, d1, ds1, p1, q1, rfl, rfl, rfl, h1, r1⟩ := trodAll_cons r0
  obtain ⟨v2, vs2, d2, ds2, p2, q2, rfl, rfl, rfl, h2, r2⟩ := trodAll_cons r1
  obtain ⟨rfl, rfl, rfl⟩ := trodAll_nil r2
  obtain rfl : args = #[v0, v1, v2] := by cases args; simp_all
  obtain ⟨rfl, rfl⟩ := trodVars_none hV
  have k0 := h0
  have lt0 : ∀ x ∈ p0, x.block < W.heap.size := by obtain ⟨m, hm⟩ := k0; exact DataW.trod_lt m _ _ _ hm
  obtain ⟨cs0, rfl, _⟩ := okWide_struct Try.underlying27 (hval 0 27 v0 rfl rfl)
  obtain ⟨x0, hx0, w0⟩ : ∃ x : RideS, cs0 = x.vals.toArray ∧ RideS.ok W x := by
    obtain ⟨fuel, hf⟩ := h0
    obtain ⟨x, hcs, hok⟩ := RideS.read hf
    exact ⟨x, by cases cs0; simp [Value.cells] at hcs; simp [hcs], hok⟩
  subst hx0
  have k1 := h1
  have lt1 : ∀ x ∈ p1, x.block < W.heap.size := by obtain ⟨m, hm⟩ := k1; exact DataW.trod_lt m _ _ _ hm
  obtain ⟨a1, len1, cap1, rfl⟩ := okWide_slice Try.underlying37 (hval 1 37 v1 rfl rfl)
  obtain ⟨xs1, hx1, w1⟩ : ∃ xs : List EvS, len1 = xs.length ∧ EvS.sl W a1 cap1 xs := by
    obtain ⟨fuel, hf⟩ := h1
    obtain ⟨a, cap, xs, hcs, hsl⟩ := EvS.open_sl hf
    simp [Value.cells] at hcs
    obtain ⟨rfl, rfl, rfl⟩ := hcs
    exact ⟨xs, rfl, hsl⟩
  subst hx1
  obtain ⟨a2, rfl, rfl, rfl, w2⟩ := open_int Try.underlying3 (hval 2 3 v2 rfl rfl) h2
  clear hA0 hval0
  refine (disputeTruth_in x0 a1 cap1 xs1 a2 W w0 w1 (I64.of_wf w2)).mono fun e W' ⟨he, bel⟩ => ?_
  subst he
  exact ⟨_, rfl, _, _, _, [], _, [], hW', trodAll_mk1 (shut_bool Try.underlying4 _), (trodAll_cons_mk (Below.trod DisputeTruthlaid (by kernel_rfl) (of_decide_eq_true (by kernel_rfl)) k0 bel lt0) (trodAll_cons_mk (Below.trod DisputeTruthlaid (by kernel_rfl) (of_decide_eq_true (by kernel_rfl)) k1 bel lt1) (trodAll_cons_mk (shut_int Try.underlying3 w2) trodAll_mk0))), rfl, bel.frame _, fun h => by cases h⟩

theorem over : Rows.disputeTruthRow.holds Try.pinned (OpenSpec.ofChange Rows.disputeTruthSpec) :=
  OpenClaim.holds_of_wide 6 Try.f6 rfl rfl rfl rfl rfl rfl rfl ⟨rfl, rfl, rfl, rfl, rfl⟩ rfl rfl rfl rfl rfl (by kernel_rfl) Try.func6 (by kernel_rfl)
    (of_decide_eq_true (by kernel_rfl)) (by unfold Func.isWrapper; first | (rw [if_pos (by decide +kernel)]; kernel_rfl) | (rw [if_neg (by decide +kernel)]; exact ⟨rfl, rfl⟩))
    (fun os started H enc _ => lifted os started H enc)

theorem proved : Rows.DisputeTruthSaid := over
end disputeTruthL
end Go.Proofs.Ytfpdhalfkfffnaa
