import Derived.Test.YtfpdhalfkfffnaaKc
import Derived.Test.YtfpdhalfkfffnaaVj
namespace Go.Proofs.Ytfpdhalfkfffnaa
open Go.RowKit
set_option linter.unusedVariables false
set_option linter.unusedSimpArgs false
set_option linter.unnecessarySimpa false

def SpanS.pv (x : SpanS) : PV := .agg (x.vals.map .sc)
def EvS.pv (x : EvS) : PV := .agg (x.vals.map .sc)
def LegS.pv (x : LegS) : PV := .agg (x.vals.map .sc)
def PauseS.pv (x : PauseS) : PV := .agg (x.vals.map .sc)
def RideS.pv (x : RideS) : PV := .agg [.sc (.int .i64 x.id), .sc (.int .i64 x.rider), .sc (.int .i64 x.start.lo), .sc (.int .i64 x.start.hi), .sc (.int .i64 x.end_.lo), .sc (.int .i64 x.end_.hi), .sc (.bool x.open_), .sl (x.legs.map LegS.pv), .sl (x.pauses.map PauseS.pv), .sc (.int .i64 x.fromWhere), .sc (.int .i64 x.fromPlace), .sc (.int .i64 x.where_), .sc (.int .i64 x.place)]
def intP (n : Int) : PV := .sc (.int .i64 n)
def intsP (l : List Int) : PV := .sl (l.map intP)
variable {M : Nat → Prop} {w : World}
theorem EvS.rng {x : EvS} : (∀ u ∈ x.vals, rngB u = true) ↔ EvS.ok w x := by
  constructor
  · intro h
    have h0 := rng_i64.1 (h (.int .i64 x.ride) (by simp [EvS.vals]))
    have h1 := rng_i64.1 (h (.int .i64 x.end_.lo) (by simp [EvS.vals]))
    have h2 := rng_i64.1 (h (.int .i64 x.end_.hi) (by simp [EvS.vals]))
    exact ⟨h0, h1, h2⟩
  · rintro ⟨h0, h1, h2⟩ u hu
    simp only [EvS.vals, List.mem_cons, List.not_mem_nil, or_false] at hu
    rcases hu with rfl | rfl | rfl <;> (rw [rng_i64]; assumption)
theorem EvS.of_sl {l : List EvS} {v : Value} (h : RepI M w (.sl (l.map EvS.pv)) v) : ∃ a cap, v = .slice a l.length cap ∧ EvS.sl w a cap l ∧ ∀ b, a = some b → 0 < l.length → ¬ M b.block := by
  obtain ⟨a, cap, rfl, h1, h2, h3, vals, h4, h5⟩ := Go.Proofs.Ytfpdhalfkfffnaa.of_sl (n := 3) EvS.pv (fun x _ => by simp [EvS.pv, PV.flat]) h
  refine ⟨a, cap, rfl, ⟨h1, h2, h3, fun hp => ?_, fun x hx => ?_⟩, fun b hb hp => ?_⟩
  · obtain ⟨b, o, e, hb, hM, hc⟩ := h5 hp
    refine ⟨b, o, e, hb, fun i hi => ?_⟩
    have e := (pw_sc.1 (h4 i hi)).1
    have hc := hc i hi
    rw [← e] at hc
    exact ⟨hc 0 _ rfl, hc 1 _ rfl, hc 2 _ rfl⟩
  · obtain ⟨i, hi, rfl⟩ := List.getElem_of_mem hx
    exact EvS.rng.1 (pw_sc.1 (h4 i hi)).2
  · obtain ⟨b', o, e, _, hM, _⟩ := h5 hp
    rw [e] at hb; cases hb; exact hM
theorem EvS.rep_sl {l : List EvS} {a : Option Addr} {cap : Nat} (h : EvS.sl w a cap l) (hM : ∀ b, a = some b → 0 < l.length → ¬ M b.block) : RepI M w (.sl (l.map EvS.pv)) (.slice a l.length cap) := by
  obtain ⟨h1, h2, h3, h4, h5⟩ := h
  refine Go.Proofs.Ytfpdhalfkfffnaa.rep_sl (n := 3) EvS.pv (fun i => ((l[i]?).map EvS.vals).getD []) (fun x _ => by simp [EvS.pv, PV.flat]) h1 h2 h3 (fun hp => ?_)
  obtain ⟨b, o, rfl, hb, hat⟩ := h4 hp
  refine ⟨b, o, rfl, hb, hM _ rfl hp, fun i hi => ?_⟩
  simp only [List.getElem?_eq_getElem hi, Option.map_some, Option.getD_some]
  refine ⟨pw_sc.2 ⟨rfl, EvS.rng.2 (h5 _ (List.getElem_mem _))⟩, fun j u hu => ?_⟩
  obtain ⟨g0, g1, g2⟩ := hat i hi
  match j, hu with
  | 0, hu => cases hu; exact g0
  | 1, hu => cases hu; exact g1
  | 2, hu => cases hu; exact g2
theorem EvS.of_rep {x : EvS} {v : Value} (h : RepI M w x.pv v) : v = .agg x.vals.toArray ∧ EvS.ok w x := by
  obtain ⟨vs, rfl, hp⟩ := agg_pw.1 h
  obtain ⟨rfl, hr⟩ := pw_sc.1 hp
  exact ⟨rfl, EvS.rng.1 hr⟩
theorem EvS.rep {x : EvS} (h : EvS.ok w x) : RepI M w x.pv (.agg x.vals.toArray) := agg_pw.2 ⟨_, rfl, pw_sc.2 ⟨rfl, EvS.rng.2 h⟩⟩
theorem LegS.rng {x : LegS} : (∀ u ∈ x.vals, rngB u = true) ↔ LegS.ok w x := by
  constructor
  · intro h
    have h0 := rng_i64.1 (h (.int .i64 x.bike) (by simp [LegS.vals]))
    have h1 := rng_i64.1 (h (.int .i64 x.from_.lo) (by simp [LegS.vals]))
    have h2 := rng_i64.1 (h (.int .i64 x.from_.hi) (by simp [LegS.vals]))
    have h3 := rng_i64.1 (h (.int .i64 x.to_.lo) (by simp [LegS.vals]))
    have h4 := rng_i64.1 (h (.int .i64 x.to_.hi) (by simp [LegS.vals]))
    exact ⟨h0, ⟨h1, h2⟩, h3, h4⟩
  · rintro ⟨h0, ⟨h1, h2⟩, h3, h4⟩ u hu
    simp only [LegS.vals, List.mem_cons, List.not_mem_nil, or_false] at hu
    rcases hu with rfl | rfl | rfl | rfl | rfl <;> (rw [rng_i64]; assumption)
theorem LegS.of_sl {l : List LegS} {v : Value} (h : RepI M w (.sl (l.map LegS.pv)) v) : ∃ a cap, v = .slice a l.length cap ∧ LegS.sl w a cap l ∧ ∀ b, a = some b → 0 < l.length → ¬ M b.block := by
  obtain ⟨a, cap, rfl, h1, h2, h3, vals, h4, h5⟩ := Go.Proofs.Ytfpdhalfkfffnaa.of_sl (n := 5) LegS.pv (fun x _ => by simp [LegS.pv, PV.flat]) h
  refine ⟨a, cap, rfl, ⟨h1, h2, h3, fun hp => ?_, fun x hx => ?_⟩, fun b hb hp => ?_⟩
  · obtain ⟨b, o, e, hb, hM, hc⟩ := h5 hp
    refine ⟨b, o, e, hb, fun i hi => ?_⟩
    have e := (pw_sc.1 (h4 i hi)).1
    have hc := hc i hi
    rw [← e] at hc
    exact ⟨hc 0 _ rfl, hc 1 _ rfl, hc 2 _ rfl, hc 3 _ rfl, hc 4 _ rfl⟩
  · obtain ⟨i, hi, rfl⟩ := List.getElem_of_mem hx
    exact LegS.rng.1 (pw_sc.1 (h4 i hi)).2
  · obtain ⟨b', o, e, _, hM, _⟩ := h5 hp
    rw [e] at hb; cases hb; exact hM
theorem LegS.rep_sl {l : List LegS} {a : Option Addr} {cap : Nat} (h : LegS.sl w a cap l) (hM : ∀ b, a = some b → 0 < l.length → ¬ M b.block) : RepI M w (.sl (l.map LegS.pv)) (.slice a l.length cap) := by
  obtain ⟨h1, h2, h3, h4, h5⟩ := h
  refine Go.Proofs.Ytfpdhalfkfffnaa.rep_sl (n := 5) LegS.pv (fun i => ((l[i]?).map LegS.vals).getD []) (fun x _ => by simp [LegS.pv, PV.flat]) h1 h2 h3 (fun hp => ?_)
  obtain ⟨b, o, rfl, hb, hat⟩ := h4 hp
  refine ⟨b, o, rfl, hb, hM _ rfl hp, fun i hi => ?_⟩
  simp only [List.getElem?_eq_getElem hi, Option.map_some, Option.getD_some]
  refine ⟨pw_sc.2 ⟨rfl, LegS.rng.2 (h5 _ (List.getElem_mem _))⟩, fun j u hu => ?_⟩
  obtain ⟨g0, g1, g2, g3, g4⟩ := hat i hi
  match j, hu with
  | 0, hu => cases hu; exact g0
  | 1, hu => cases hu; exact g1
  | 2, hu => cases hu; exact g2
  | 3, hu => cases hu; exact g3
  | 4, hu => cases hu; exact g4
theorem LegS.of_rep {x : LegS} {v : Value} (h : RepI M w x.pv v) : v = .agg x.vals.toArray ∧ LegS.ok w x := by
  obtain ⟨vs, rfl, hp⟩ := agg_pw.1 h
  obtain ⟨rfl, hr⟩ := pw_sc.1 hp
  exact ⟨rfl, LegS.rng.1 hr⟩
theorem LegS.rep {x : LegS} (h : LegS.ok w x) : RepI M w x.pv (.agg x.vals.toArray) := agg_pw.2 ⟨_, rfl, pw_sc.2 ⟨rfl, LegS.rng.2 h⟩⟩
theorem PauseS.rng {x : PauseS} : (∀ u ∈ x.vals, rngB u = true) ↔ PauseS.ok w x := by
  constructor
  · intro h
    have h0 := rng_i64.1 (h (.int .i64 x.from_.lo) (by simp [PauseS.vals]))
    have h1 := rng_i64.1 (h (.int .i64 x.from_.hi) (by simp [PauseS.vals]))
    have h2 := rng_i64.1 (h (.int .i64 x.to_.lo) (by simp [PauseS.vals]))
    have h3 := rng_i64.1 (h (.int .i64 x.to_.hi) (by simp [PauseS.vals]))
    exact ⟨⟨h0, h1⟩, h2, h3⟩
  · rintro ⟨⟨h0, h1⟩, h2, h3⟩ u hu
    simp only [PauseS.vals, List.mem_cons, List.not_mem_nil, or_false] at hu
    rcases hu with rfl | rfl | rfl | rfl <;> (rw [rng_i64]; assumption)
theorem PauseS.of_sl {l : List PauseS} {v : Value} (h : RepI M w (.sl (l.map PauseS.pv)) v) : ∃ a cap, v = .slice a l.length cap ∧ PauseS.sl w a cap l ∧ ∀ b, a = some b → 0 < l.length → ¬ M b.block := by
  obtain ⟨a, cap, rfl, h1, h2, h3, vals, h4, h5⟩ := Go.Proofs.Ytfpdhalfkfffnaa.of_sl (n := 4) PauseS.pv (fun x _ => by simp [PauseS.pv, PV.flat]) h
  refine ⟨a, cap, rfl, ⟨h1, h2, h3, fun hp => ?_, fun x hx => ?_⟩, fun b hb hp => ?_⟩
  · obtain ⟨b, o, e, hb, hM, hc⟩ := h5 hp
    refine ⟨b, o, e, hb, fun i hi => ?_⟩
    have e := (pw_sc.1 (h4 i hi)).1
    have hc := hc i hi
    rw [← e] at hc
    exact ⟨hc 0 _ rfl, hc 1 _ rfl, hc 2 _ rfl, hc 3 _ rfl⟩
  · obtain ⟨i, hi, rfl⟩ := List.getElem_of_mem hx
    exact PauseS.rng.1 (pw_sc.1 (h4 i hi)).2
  · obtain ⟨b', o, e, _, hM, _⟩ := h5 hp
    rw [e] at hb; cases hb; exact hM
theorem PauseS.rep_sl {l : List PauseS} {a : Option Addr} {cap : Nat} (h : PauseS.sl w a cap l) (hM : ∀ b, a = some b → 0 < l.length → ¬ M b.block) : RepI M w (.sl (l.map PauseS.pv)) (.slice a l.length cap) := by
  obtain ⟨h1, h2, h3, h4, h5⟩ := h
  refine Go.Proofs.Ytfpdhalfkfffnaa.rep_sl (n := 4) PauseS.pv (fun i => ((l[i]?).map PauseS.vals).getD []) (fun x _ => by simp [PauseS.pv, PV.flat]) h1 h2 h3 (fun hp => ?_)
  obtain ⟨b, o, rfl, hb, hat⟩ := h4 hp
  refine ⟨b, o, rfl, hb, hM _ rfl hp, fun i hi => ?_⟩
  simp only [List.getElem?_eq_getElem hi, Option.map_some, Option.getD_some]
  refine ⟨pw_sc.2 ⟨rfl, PauseS.rng.2 (h5 _ (List.getElem_mem _))⟩, fun j u hu => ?_⟩
  obtain ⟨g0, g1, g2, g3⟩ := hat i hi
  match j, hu with
  | 0, hu => cases hu; exact g0
  | 1, hu => cases hu; exact g1
  | 2, hu => cases hu; exact g2
  | 3, hu => cases hu; exact g3
theorem PauseS.of_rep {x : PauseS} {v : Value} (h : RepI M w x.pv v) : v = .agg x.vals.toArray ∧ PauseS.ok w x := by
  obtain ⟨vs, rfl, hp⟩ := agg_pw.1 h
  obtain ⟨rfl, hr⟩ := pw_sc.1 hp
  exact ⟨rfl, PauseS.rng.1 hr⟩
theorem PauseS.rep {x : PauseS} (h : PauseS.ok w x) : RepI M w x.pv (.agg x.vals.toArray) := agg_pw.2 ⟨_, rfl, pw_sc.2 ⟨rfl, PauseS.rng.2 h⟩⟩
theorem SpanS.of_rep {x : SpanS} {v : Value} (h : RepI M w x.pv v) : v = SV x ∧ SpanS.ok w x := by
  obtain ⟨vs, rfl, hp⟩ := agg_pw.1 h
  obtain ⟨rfl, hr⟩ := pw_sc.1 hp
  exact ⟨rfl, rng_i64.1 (hr _ (by simp [SpanS.vals])), rng_i64.1 (hr _ (by simp [SpanS.vals]))⟩
theorem RideS.of_rep {x : RideS} {v : Value} (h : RepI M w x.pv v) : ∃ y : RideS, y.norm = x.norm ∧ v = RV y ∧ RideS.ok w y := by
  obtain ⟨vs, rfl, hp⟩ := agg_pw.1 h
  simp only [pw_cons, pw_nil, rep_sc] at hp
  obtain ⟨_, _, rfl, ⟨rfl, r0⟩, _, _, rfl, ⟨rfl, r1⟩, _, _, rfl, ⟨rfl, r2⟩, _, _, rfl, ⟨rfl, r3⟩, _, _, rfl, ⟨rfl, r4⟩, _, _, rfl, ⟨rfl, r5⟩, _, _, rfl, ⟨rfl, r6⟩, _, _, rfl, h7, _, _, rfl, h8, _, _, rfl, ⟨rfl, r9⟩, _, _, rfl, ⟨rfl, r10⟩, _, _, rfl, ⟨rfl, r11⟩, _, _, rfl, ⟨rfl, r12⟩, rfl⟩ := hp
  obtain ⟨a1, c1, rfl, hl, -⟩ := LegS.of_sl h7
  obtain ⟨a2, c2, rfl, hp2, -⟩ := PauseS.of_sl h8
  simp only [rng_i64] at *
  exact ⟨{ x with legsA := a1, legsC := c1, pausesA := a2, pausesC := c2 }, rfl, rfl, r0, r1, ⟨r2, r3⟩, ⟨r4, r5⟩, hl, hp2, r9, r10, r11, r12⟩
theorem RideS.rep {x : RideS} (h : RideS.ok w x) (hM : ∀ a, (x.legsA = some a ∨ x.pausesA = some a) → ¬ M a.block) : RepI M w x.pv (RV x) := by
  obtain ⟨r0, r1, ⟨r2, r3⟩, ⟨r4, r5⟩, hl, hp2, r9, r10, r11, r12⟩ := h
  refine agg_pw.2 ⟨_, rfl, ?_⟩
  simp only [pw_cons, pw_nil, rep_sc, rng_i64]
  exact ⟨_, _, rfl, ⟨rfl, r0⟩, _, _, rfl, ⟨rfl, r1⟩, _, _, rfl, ⟨rfl, r2⟩, _, _, rfl, ⟨rfl, r3⟩, _, _, rfl, ⟨rfl, r4⟩, _, _, rfl, ⟨rfl, r5⟩, _, _, rfl, ⟨rfl, rfl⟩, _, _, rfl, LegS.rep_sl hl (fun b hb _ => hM b (.inl hb)), _, _, rfl, PauseS.rep_sl hp2 (fun b hb _ => hM b (.inr hb)), _, _, rfl, ⟨rfl, r9⟩, _, _, rfl, ⟨rfl, r10⟩, _, _, rfl, ⟨rfl, r11⟩, _, _, rfl, ⟨rfl, r12⟩, rfl⟩
theorem RideS.pv_norm {x y : RideS} (h : x.norm = y.norm) : x.pv = y.pv := by
  have e : ∀ z : RideS, z.norm.pv = z.pv := fun _ => rfl
  rw [← e x, ← e y, h]
theorem ints_of {l : List Int} {v : Value} (h : RepI M w (intsP l) v) : ∃ a cap, v = .slice a l.length cap ∧ SlI w a cap l := by
  obtain ⟨a, cap, rfl, h1, h2, h3, vals, h4, h5⟩ := of_sl (n := 1) intP (fun x _ => rfl) h
  refine ⟨a, cap, rfl, h1, h2, h3, fun hp => ?_, fun x hx => ?_⟩
  · obtain ⟨b, o, e, hb, hM, hc⟩ := h5 hp
    refine ⟨b, o, e, hb, fun i hi => ?_⟩
    have e := (pw_sc (us := [.int .i64 l[i]])).1 (h4 i hi) |>.1
    have hc := hc i hi 0 (.int .i64 l[i]) (by rw [← e]; rfl)
    simpa using hc
  · obtain ⟨i, hi, rfl⟩ := List.getElem_of_mem hx
    exact rng_i64.1 ((pw_sc (us := [.int .i64 l[i]])).1 (h4 i hi) |>.2 _ (by simp))
theorem ints_rep {l : List Int} {a : Option Addr} {cap : Nat} (h : SlI w a cap l) (hM : ∀ b, a = some b → 0 < l.length → ¬ M b.block) : RepI M w (intsP l) (.slice a l.length cap) := by
  obtain ⟨h1, h2, h3, h4, h5⟩ := h
  refine rep_sl (n := 1) intP (fun i => ((l[i]?).map fun n => [Value.int .i64 n]).getD []) (fun x _ => rfl) h1 h2 h3 (fun hp => ?_)
  obtain ⟨b, o, rfl, hb, hat⟩ := h4 hp
  refine ⟨b, o, rfl, hb, hM _ rfl hp, fun i hi => ?_⟩
  simp only [List.getElem?_eq_getElem hi, Option.map_some, Option.getD_some]
  refine ⟨(pw_sc (us := [.int .i64 l[i]])).2 ⟨rfl, fun u hu => ?_⟩, fun j u hu => ?_⟩
  · simp at hu; subst hu; exact rng_i64.2 (h5 _ (List.getElem_mem _))
  · match j, hu with
    | 0, hu => cases hu; simpa using hat i hi


end Go.Proofs.Ytfpdhalfkfffnaa
