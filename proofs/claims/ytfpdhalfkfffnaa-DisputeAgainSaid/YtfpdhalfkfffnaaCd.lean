import Derived.Test.YtfpdhalfkfffnaaCc
namespace Go.Proofs.Ytfpdhalfkfffnaa
open Go.RowKit
set_option linter.unusedVariables false
set_option linter.unusedSimpArgs false
set_option linter.unnecessarySimpa false

variable {M : Nat → Prop} {w : World}
theorem one_arg {Rl : PV → Value → Prop} {p : PV} {vs : List Value} (h : Pw Rl [p] vs) : ∃ v, vs = [v] ∧ Rl p v := by
  obtain ⟨v, _, rfl, h1, h2⟩ := pw_cons.1 h
  rw [pw_nil] at h2; subst h2; exact ⟨v, rfl, h1⟩
theorem two_args {Rl : PV → Value → Prop} {p q : PV} {vs : List Value} (h : Pw Rl [p, q] vs) : ∃ v u, vs = [v, u] ∧ Rl p v ∧ Rl q u := by
  obtain ⟨v, _, rfl, h1, h2⟩ := pw_cons.1 h
  obtain ⟨u, rfl, h3⟩ := one_arg h2
  exact ⟨v, u, rfl, h1, h3⟩
theorem bool_rng (b : Bool) : rngB (.bool b) = true := rfl
theorem via_norm {α : Type} (f : RideS → α) (hf : ∀ r : RideS, f r.norm = f r) {x y : RideS} (h : y.norm = x.norm) : f y = f x := by rw [← hf y, ← hf x, h]
theorem sameD_g (a b : RideS) : Good Try.prog 14 [a.pv, b.pv] (.sc (.bool (sameL a b))) := by
  refine .of_ret rfl (fun M w vs hM hp => ?_)
  obtain ⟨v, u, rfl, h1, h2⟩ := two_args hp
  obtain ⟨a', ha, rfl, oa⟩ := RideS.of_rep h1
  obtain ⟨b', hb, rfl, ob⟩ := RideS.of_rep h2
  have e : sameL a b = sameL a' b' := by rw [via_norm (fun r => sameL r b') (fun _ => rfl) ha, via_norm (sameL a) (fun _ => rfl) hb]
  rw [e]; exact sameD_c a' b' w oa ob
theorem few_g (l : List EvS) : Good Try.prog 15 [.sl (l.map EvS.pv)] (.sc (.bool (fewL l))) := by
  refine .of_ret rfl (fun M w vs hM hp => ?_)
  obtain ⟨v, rfl, h1⟩ := one_arg hp
  obtain ⟨a, c, rfl, hs, -⟩ := EvS.of_sl h1
  exact few_c a c l w hs
theorem sameI_g (l m : List Int) : Good Try.prog 18 [intsP l, intsP m] (.sc (.bool (decide (l = m)))) := by
  refine .of_ret rfl (fun M w vs hM hp => ?_)
  obtain ⟨v, u, rfl, h1, h2⟩ := two_args hp
  obtain ⟨a, c, rfl, hs⟩ := ints_of h1
  obtain ⟨b, d, rfl, ht⟩ := ints_of h2
  exact sameI_c a b c d l m w hs ht
theorem agree_g (l : List EvS) : Good Try.prog 19 [.sl (l.map EvS.pv)] (.sc (.bool (agreeL l))) := by
  refine .of_ret rfl (fun M w vs hM hp => ?_)
  obtain ⟨v, rfl, h1⟩ := one_arg hp
  obtain ⟨a, c, rfl, hs, -⟩ := EvS.of_sl h1
  exact agree_c a c l w hs
theorem qagree_g (l : List EvS) : Good Try.prog 20 [.sl (l.map EvS.pv)] (.sc (.bool (agreeL l))) := by
  refine .of_ret rfl (fun M w vs hM hp => ?_)
  obtain ⟨v, rfl, h1⟩ := one_arg hp
  obtain ⟨a, c, rfl, hs, -⟩ := EvS.of_sl h1
  exact qagree_c a c l w hs
theorem check_rng (r : RideS) : rngB (.int .i64 (checkL r)) = true := by
  rw [rng_i64]; unfold checkL; unfold I64; (repeat' split) <;> omega
theorem check_g (r : RideS) : Good Try.prog 21 [r.pv] (.sc (.int .i64 (checkL r))) := by
  refine .of_ret (check_rng r) (fun M w vs hM hp => ?_)
  obtain ⟨v, rfl, h1⟩ := one_arg hp
  obtain ⟨a', ha, rfl, oa⟩ := RideS.of_rep h1
  rw [via_norm checkL (fun _ => rfl) ha.symm]; exact qcheck_c a' w oa
theorem within_g (a b : SpanS) : Good Try.prog 22 [a.pv, b.pv] (.sc (.bool (withinL a b))) := by
  refine .of_ret rfl (fun M w vs hM hp => ?_)
  obtain ⟨v, u, rfl, h1, h2⟩ := two_args hp
  obtain ⟨rfl, _⟩ := SpanS.of_rep h1
  obtain ⟨rfl, _⟩ := SpanS.of_rep h2
  exact within_c a b w
theorem right_g (e : EvS) : Good Try.prog 24 [e.pv] (.sc (.bool (validL e.end_))) := by
  refine .of_ret rfl (fun M w vs hM hp => ?_)
  obtain ⟨v, rfl, h1⟩ := one_arg hp
  obtain ⟨rfl, _⟩ := EvS.of_rep h1
  exact right_c e w
theorem light_g (r : RideS) : Good Try.prog 10 [r.pv] (.sc (.bool (fewRL [r] 1))) := by
  refine .of_ret rfl (fun M w vs hM hp => ?_)
  obtain ⟨v, rfl, h1⟩ := one_arg hp
  obtain ⟨a', ha, rfl, oa⟩ := RideS.of_rep h1
  rw [via_norm (fun r => fewRL [r] 1) (fun _ => rfl) ha.symm]; exact light_c a' w oa
/-- A result that is a ride in memory of its own. -/
theorem rep_own {w w' : World} {x : RideS} (hM : ∀ k, M k → k < w.heap.size) (hok : RideS.ok w' x) (hf : RideS.from_ w.heap.size x) : RepI M w' x.pv (RV x) :=
  RideS.rep hok (fun a ha hm => by
    have := hM _ hm
    rcases ha with h | h
    · have := hf.1 a h; omega
    · have := hf.2 a h; omega)
def narP (p : RideS × Int) : PV := .tup [p.1.pv, .sc (.int .i64 p.2)]
theorem nar_good {f : FuncId} (hc : ∀ (r : RideS) (e : EvS) (w : World), RideS.ok w r → EvS.ok w e → Calls Try.prog f #[RV r, EV e] w (NarPost w (narrowL r e))) (r : RideS) (e : EvS) : Good Try.prog f [r.pv, e.pv] (narP (narrowL r e)) := by
  intro M w vs hM hp
  obtain ⟨v, u, rfl, h1, h2⟩ := two_args hp
  obtain ⟨r', hr, rfl, oa⟩ := RideS.of_rep h1
  obtain ⟨rfl, oe⟩ := EvS.of_rep h2
  rw [via_norm (fun r => narrowL r e) (fun _ => rfl) hr.symm]
  refine (hc r' e w oa oe).mono ?_
  rintro en w' ⟨x, rfl, hb, hn, hok, hf, hin⟩
  refine ⟨_, rfl, hb, tup_pw.2 ⟨_, rfl, ?_⟩⟩
  simp only [pw_cons, pw_nil, rep_sc]
  refine ⟨_, _, rfl, ?_, _, _, rfl, ⟨rfl, ?_⟩, rfl⟩
  · rw [← hn]; exact rep_own hM hok hf
  · rw [rng_i64]
    have := check_rng r'
    rw [rng_i64] at this
    unfold narrowL
    (repeat' split) <;> first | exact this | (unfold I64; simp)
theorem narrow_g (r : RideS) (e : EvS) : Good Try.prog 12 [r.pv, e.pv] (narP (narrowL r e)) := nar_good narrow_c r e
theorem qnarrow_g (r : RideS) (e : EvS) : Good Try.prog 13 [r.pv, e.pv] (narP (narrowL r e)) := nar_good qnarrow_c r e


end Go.Proofs.Ytfpdhalfkfffnaa
