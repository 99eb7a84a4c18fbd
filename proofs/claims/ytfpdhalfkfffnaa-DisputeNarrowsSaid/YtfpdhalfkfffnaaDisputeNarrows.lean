/-
  The Go function DisputeNarrows returns true for every input, and every argument reads behind the call as it read before: no condition beyond the given row's own.
-/
import Derived.Test.YtfpdhalfkfffnaaRows
import Derived.Test.YtfpdhalfkfffnaaOpen
import Derived.Test.YtfpdhalfkfffnaaCn
namespace Go.Proofs.Ytfpdhalfkfffnaa
open Go.ChangeShapes Go.WideShapes Go.ChangeAt Go.RowKit
open Go.ChangeMaps (open_string shut_string)
set_option linter.unusedVariables false
set_option linter.unusedSimpArgs false
set_option linter.unnecessarySimpa false
theorem DisputeNarrowsown : ownKnob Try.prog.godebug = none := by kernel_rfl
theorem DisputeNarrowslaid : laidOutB Try.prog = true := by kernel_rfl
theorem disputeNarrows_in (x0 : RideS) (a1 : Option Addr) (c1 : Nat) (x1 : List EvS) (w : World) (h0 : RideS.ok w x0) (h1 : EvS.sl w a1 c1 x1) : Calls Try.prog 5 #[.agg x0.vals.toArray, .slice a1 x1.length c1] w (Ret w (.bool true)) :=
  (disputeNarrows_good x0 x1).ret (vs := [.agg x0.vals.toArray, .slice a1 x1.length c1]) (pw_cons.2 ⟨_, _, rfl, RideS.rep0 h0, pw_cons.2 ⟨_, _, rfl, EvS.rep_sl0 h1, pw_nil.2 rfl⟩⟩)
namespace disputeNarrowsL

set_option maxRecDepth 100000 in
theorem lifted (os : Os) (started : os.Started) (H : Type) (enc : TypeId × Value → H) :
    ReturnsInHanded {} Try.checked os 5 .any (Rows.disputeNarrowsSpec.pre6 enc Try.prog Try.f5 Rows.disputeNarrowsRow.domain false) (Rows.disputeNarrowsSpec.post enc Try.prog Try.f5 false true false false) := by
  refine returnsInHanded_of_change (C := Try.checked) DisputeNarrowsown started (by kernel_rfl) Try.func5
    (ChangeSpec.witness6 (enc := enc) (C := Try.checked) false ⟨#[], #[.agg #[.int .i64 0, .int .i64 0, .int .i64 0, .int .i64 0, .int .i64 0, .int .i64 0, .bool false, .slice none 0 0, .slice none 0 0, .int .i64 0, .int .i64 0, .int .i64 0, .int .i64 0], .slice none 0 0], []⟩ 8 (by kernel_rfl) (by kernel_rfl) (by kernel_rfl) (by kernel_rfl)) ?_
  intro W base args ds gs before hval0 hW hcnd _
  have hval : ∀ (j : Nat) t v, Try.f5.params[j]? = some t → args[j]? = some v → Value.okWide Try.prog W .any base t v := hval0
  have hW' := hW
  obtain ⟨p, q, hA0, hV, rfl, hfz, hnd⟩ := hW
  have hA : DataW.TrodAll enc Try.prog W 0 (fun _ => true) true Try.f5.params.toList args.toList ds p := hA0
  rw [Try.params5] at hA hval
  obtain ⟨v0, vs0, d0, ds0, p0, q0, hargs, rfl, rfl, h0, r0⟩ := trodAll_cons hA
  obtain ⟨v1, vs1, d1, ds1, p1, q1, rfl, rfl, rfl, h1, r1⟩ := trodAll_cons r0
  obtain ⟨rfl, rfl, rfl⟩ := trodAll_nil r1
  obtain rfl : args = #[v0, v1] := by cases args; simp_all
  obtain ⟨rfl, rfl⟩ := trodVars_none hV
  have k0 := h0
  have lt0 : ∀ x ∈ p0, x.block < W.heap.size := by obtain ⟨m, hm⟩ := k0; exact DataW.trod_lt m _ _ _ hm
  obtain ⟨cs0, rfl, _⟩ := okWide_struct Try.underlying27 (hval 0 27 v0 rfl rfl)
  obtain ⟨x0, hx0, w0⟩ : ∃ x : RideS, cs0 = x.vals.toArray ∧ RideS.ok W x := by
    obtain ⟨fuel, hf⟩ := h0
    obtain ⟨x, hcs, hok⟩ := RideS.read hf
    exact ⟨x, by cases cs0; simp [Value.cells] at hcs; simp [hcs], hok⟩
  subst hx0
  have k1 := h1
  have lt1 : ∀ x ∈ p1, x.block < W.heap.size := by obtain ⟨m, hm⟩ := k1; exact DataW.trod_lt m _ _ _ hm
  obtain ⟨a1, len1, cap1, rfl⟩ := okWide_slice Try.underlying37 (hval 1 37 v1 rfl rfl)
  obtain ⟨xs1, hx1, w1⟩ : ∃ xs : List EvS, len1 = xs.length ∧ EvS.sl W a1 cap1 xs := by
    obtain ⟨fuel, hf⟩ := h1
    obtain ⟨a, cap, xs, hcs, hsl⟩ := EvS.open_sl hf
    simp [Value.cells] at hcs
    obtain ⟨rfl, rfl, rfl⟩ := hcs
    exact ⟨xs, rfl, hsl⟩
  subst hx1
  clear hA0 hval0
  refine (disputeNarrows_in x0 a1 cap1 xs1 W w0 w1).mono fun e W' ⟨he, bel⟩ => ?_
  subst he
  exact ⟨_, rfl, _, _, _, [], _, [], hW', trodAll_mk1 (shut_bool Try.underlying4 _), (trodAll_cons_mk (Below.trod DisputeNarrowslaid (by kernel_rfl) (of_decide_eq_true (by kernel_rfl)) k0 bel lt0) (trodAll_cons_mk (Below.trod DisputeNarrowslaid (by kernel_rfl) (of_decide_eq_true (by kernel_rfl)) k1 bel lt1) trodAll_mk0)), rfl, bel.frame _, fun h => by cases h⟩

theorem over : Rows.disputeNarrowsRow.holds Try.pinned (OpenSpec.ofChange Rows.disputeNarrowsSpec) :=
  OpenClaim.holds_of_wide 5 Try.f5 rfl rfl rfl rfl rfl rfl rfl ⟨rfl, rfl, rfl, rfl, rfl⟩ rfl rfl rfl rfl rfl (by kernel_rfl) Try.func5 (by kernel_rfl)
    (of_decide_eq_true (by kernel_rfl)) (by unfold Func.isWrapper; first | (rw [if_pos (by decide +kernel)]; kernel_rfl) | (rw [if_neg (by decide +kernel)]; exact ⟨rfl, rfl⟩))
    (fun os started H enc _ => lifted os started H enc)

theorem proved : Rows.DisputeNarrowsSaid := over
end disputeNarrowsL
end Go.Proofs.Ytfpdhalfkfffnaa
