/-
  The Go function DisputeEach returns true for every input, and every argument reads behind the call as it read before: no condition beyond the given row's own.
-/
import Derived.Test.YtfpdhalfkfffnaaRows
import Derived.Test.YtfpdhalfkfffnaaOpen
import Derived.Test.YtfpdhalfkfffnaaCk
namespace Go.Proofs.Ytfpdhalfkfffnaa
open Go.ChangeShapes Go.WideShapes Go.ChangeAt Go.RowKit
open Go.ChangeMaps (open_string shut_string)
set_option linter.unusedVariables false
set_option linter.unusedSimpArgs false
set_option linter.unnecessarySimpa false
theorem DisputeEachown : ownKnob Try.prog.godebug = none := by kernel_rfl
theorem DisputeEachlaid : laidOutB Try.prog = true := by kernel_rfl
theorem disputeEach_in (a0 : Option Addr) (c0 : Nat) (x0 : List RideS) (a1 : Option Addr) (c1 : Nat) (x1 : List EvS) (w : World) (h0 : RideS.sl w a0 c0 x0) (h1 : EvS.sl w a1 c1 x1) : Calls Try.prog 9 #[.slice a0 x0.length c0, .slice a1 x1.length c1] w (Ret w (.bool true)) :=
  (disputeEach_good x0 x1).ret (vs := [.slice a0 x0.length c0, .slice a1 x1.length c1]) (pw_cons.2 ⟨_, _, rfl, RideS.rep_sl0 h0, pw_cons.2 ⟨_, _, rfl, EvS.rep_sl0 h1, pw_nil.2 rfl⟩⟩)
namespace disputeEachL

set_option maxRecDepth 100000 in
theorem lifted (os : Os) (started : os.Started) (H : Type) (enc : TypeId × Value → H) :
    ReturnsInHanded {} Try.checked os 9 .any (Rows.disputeEachSpec.pre6 enc Try.prog Try.f9 Rows.disputeEachRow.domain false) (Rows.disputeEachSpec.post enc Try.prog Try.f9 false true false false) := by
  refine returnsInHanded_of_change (C := Try.checked) DisputeEachown started (by kernel_rfl) Try.func9
    (ChangeSpec.witness6 (enc := enc) (C := Try.checked) false ⟨#[], #[.slice none 0 0, .slice none 0 0], []⟩ 8 (by kernel_rfl) (by kernel_rfl) (by kernel_rfl) (by kernel_rfl)) ?_
  intro W base args ds gs before hval0 hW hcnd _
  have hval : ∀ (j : Nat) t v, Try.f9.params[j]? = some t → args[j]? = some v → Value.okWide Try.prog W .any base t v := hval0
  have hW' := hW
  obtain ⟨p, q, hA0, hV, rfl, hfz, hnd⟩ := hW
  have hA : DataW.TrodAll enc Try.prog W 0 (fun _ => true) true Try.f9.params.toList args.toList ds p := hA0
  rw [Try.params9] at hA hval
  obtain ⟨v0, vs0, d0, ds0, p0, q0, hargs, rfl, rfl, h0, r0⟩ := trodAll_cons hA
  obtain ⟨v1, vs1, d1, ds1, p1, q1, rfl, rfl, rfl, h1, r1⟩ := trodAll_cons r0
  obtain ⟨rfl, rfl, rfl⟩ := trodAll_nil r1
  obtain rfl : args = #[v0, v1] := by cases args; simp_all
  obtain ⟨rfl, rfl⟩ := trodVars_none hV
  have k0 := h0
  have lt0 : ∀ x ∈ p0, x.block < W.heap.size := by obtain ⟨m, hm⟩ := k0; exact DataW.trod_lt m _ _ _ hm
  obtain ⟨a0, len0, cap0, rfl⟩ := okWide_slice Try.underlying51 (hval 0 51 v0 rfl rfl)
  obtain ⟨xs0, hx0, w0⟩ : ∃ xs : List RideS, len0 = xs.length ∧ RideS.sl W a0 cap0 xs := by
    obtain ⟨fuel, hf⟩ := h0
    obtain ⟨a, cap, xs, hcs, hsl⟩ := RideS.open_sl hf
    simp [Value.cells] at hcs
    obtain ⟨rfl, rfl, rfl⟩ := hcs
    exact ⟨xs, rfl, hsl⟩
  subst hx0
  have k1 := h1
  have lt1 : ∀ x ∈ p1, x.block < W.heap.size := by obtain ⟨m, hm⟩ := k1; exact DataW.trod_lt m _ _ _ hm
  obtain ⟨a1, len1, cap1, rfl⟩ := okWide_slice Try.underlying37 (hval 1 37 v1 rfl rfl)
  obtain ⟨xs1, hx1, w1⟩ : ∃ xs : List EvS, len1 = xs.length ∧ EvS.sl W a1 cap1 xs := by
    obtain ⟨fuel, hf⟩ := h1
    obtain ⟨a, cap, xs, hcs, hsl⟩ := EvS.open_sl hf
    simp [Value.cells] at hcs
    obtain ⟨rfl, rfl, rfl⟩ := hcs
    exact ⟨xs, rfl, hsl⟩
  subst hx1
  clear hA0 hval0
  refine (disputeEach_in a0 cap0 xs0 a1 cap1 xs1 W w0 w1).mono fun e W' ⟨he, bel⟩ => ?_
  subst he
  exact ⟨_, rfl, _, _, _, [], _, [], hW', trodAll_mk1 (shut_bool Try.underlying4 _), (trodAll_cons_mk (Below.trod DisputeEachlaid (by kernel_rfl) (of_decide_eq_true (by kernel_rfl)) k0 bel lt0) (trodAll_cons_mk (Below.trod DisputeEachlaid (by kernel_rfl) (of_decide_eq_true (by kernel_rfl)) k1 bel lt1) trodAll_mk0)), rfl, bel.frame _, fun h => by cases h⟩

theorem over : Rows.disputeEachRow.holds Try.pinned (OpenSpec.ofChange Rows.disputeEachSpec) :=
  OpenClaim.holds_of_wide 9 Try.f9 rfl rfl rfl rfl rfl rfl rfl ⟨rfl, rfl, rfl, rfl, rfl⟩ rfl rfl rfl rfl rfl (by kernel_rfl) Try.func9 (by kernel_rfl)
    (of_decide_eq_true (by kernel_rfl)) (by unfold Func.isWrapper; first | (rw [if_pos (by decide +kernel)]; kernel_rfl) | (rw [if_neg (by decide +kernel)]; exact ⟨rfl, rfl⟩))
    (fun os started H enc _ => lifted os started H enc)

theorem proved : Rows.DisputeEachSaid := over
end disputeEachL
end Go.Proofs.Ytfpdhalfkfffnaa
