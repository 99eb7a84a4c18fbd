/-
  A ride in memory of its own, as an abstract value.
-/
import Derived.Test.YthgnbkcopapbmaaEo
namespace Go.Proofs.Ythgnbkcopapbmaa
open Go.RowKit
open Nat (reduceAdd reduceEqDiff reduceLT reduceLeDiff reduceSub reducePow reduceMul)
open Int (reduceToNat reduceLE reduceEq)
set_option linter.unusedVariables false
set_option linter.unusedSimpArgs false
set_option linter.unnecessarySimpa false

def copyPv (r : RideS) (id : Nat) : PV := .agg [.sc (.int .i64 r.id), .sc (.int .i64 r.rider), .sc (.int .i64 r.start.lo), .sc (.int .i64 r.start.hi), .sc (.int .i64 r.end_.lo), .sc (.int .i64 r.end_.hi), .sc (.bool r.open_), .own id 0, .sl (r.pauses.map PauseS.pv), .sc (.int .i64 r.fromWhere), .sc (.int .i64 r.fromPlace), .sc (.int .i64 r.where_), .sc (.int .i64 r.place)]
theorem flat_at {α : Type} {vals : α → List Value} {n : Nat} (hv : ∀ x, (vals x).length = n) : ∀ {l : List α} {i : Nat} (hi : i < l.length) {k : Nat} {u : Value}, k < n → (vals l[i])[k]? = some u → (l.flatMap vals)[i * n + k]? = some u
  | [], i, hi, _, _, _, _ => by simp at hi
  | x :: l, 0, _, k, u, hk, hu => by
    rw [List.flatMap_cons, Nat.zero_mul, Nat.zero_add, List.getElem?_append_left (by rw [hv]; exact hk)]
    exact hu
  | x :: l, i + 1, hi, k, u, hk, hu => by
    have hi2 : i < l.length := by simpa using hi
    have hu2 : (vals l[i])[k]? = some u := hu
    have ih := flat_at hv hi2 hk hu2
    rw [List.flatMap_cons, Nat.add_mul, Nat.one_mul, List.getElem?_append_right (by rw [hv]; omega), hv]
    rw [← ih]; congr 1; omega
theorem pause_sl {M : Nat → Prop} {w : World} {B : Nat} {a : Option Addr} {c : Nat} {l : List PauseS} (h : w.ownsRow B 102 4 (.slice a l.length c) l.length (l.flatMap PauseS.vals)) (hr : ∀ u ∈ l.flatMap PauseS.vals, rngB u = true) (hM : ∀ b, (Value.slice a l.length c).ownBlock = some b → ¬ M b) : RepI M w (.sl (l.map PauseS.pv)) (.slice a l.length c) := by
  rcases h.2 with ⟨h1, h2⟩ | ⟨g, cap, cur, hv, hg, hh, hle, hm, hcs, htk⟩
  · simp only [Value.slice.injEq] at h1
    obtain ⟨rfl, h3, rfl⟩ := h1
    have : l = [] := List.eq_nil_of_length_eq_zero h3
    subst this
    exact .slE none 0 (Nat.zero_le _) (fun _ => rfl)
  · simp only [Value.slice.injEq, true_and] at hv
    obtain ⟨rfl, rfl⟩ := hv
    have hc := h.cells (g := g) rfl
    have hgl : g < w.heap.size := (Array.getElem?_eq_some_iff.1 hh).1
    refine rep_sl PauseS.pv (n := 4) (fun i => PauseS.vals (l.getD i ⟨⟨0, 0⟩, ⟨0, 0⟩⟩)) (fun x _ => rfl) hle hm (fun e => by cases e) (fun _ => ⟨g, 0, rfl, hgl, hM g rfl, fun i hi => ⟨?_, ?_⟩⟩)
    · have e : l.getD i ⟨⟨0, 0⟩, ⟨0, 0⟩⟩ = l[i] := by rw [List.getD_eq_getElem?_getD, List.getElem?_eq_getElem hi]; rfl
      rw [e]
      exact pw_sc.2 ⟨rfl, fun u hu => hr u (List.mem_flatMap.2 ⟨_, List.getElem_mem hi, hu⟩)⟩
    · intro j u hu
      have e : l.getD i ⟨⟨0, 0⟩, ⟨0, 0⟩⟩ = l[i] := by rw [List.getD_eq_getElem?_getD, List.getElem?_eq_getElem hi]; rfl
      rw [e] at hu
      have hj : j < 4 := (List.getElem?_eq_some_iff.1 hu).1
      have h9 : (l.flatMap PauseS.vals)[i * 4 + j]? = some u := flat_at (vals := PauseS.vals) (n := 4) (fun _ => rfl) hi hj hu
      have := hc (i * 4 + j) u h9
      rw [addr_add, Nat.zero_add] at this
      rw [Nat.zero_add]; exact this
set_option maxHeartbeats 1000000 in
theorem own_o (r : RideS) (hl1 : r.legs.length ≤ 1000000) (hl2 : r.pauses.length ≤ 1000000) : GoodO Try.prog 24 [r.pv] (copyPv r) 59 5 (r.legs.map LegS.pv) := by
  intro M w vs hM hp _
  obtain ⟨v, _, rfl, hv, hp⟩ := pw_cons.1 hp
  rw [pw_nil] at hp; subst hp
  obtain ⟨b1, d1, b2, d2, rfl, s1, q1, s2, q2, ⟨r0, r1, r2, r3, r4, r5, r9, r10, r11, r12⟩⟩ := ride_vals hv
  refine (own_c r b1 d1 b2 d2 w s1 s2 hl1 hl2).mono ?_
  rintro en w' ⟨a1, c1, a2, c2, B2, rfl, hb, hB2, o1, hlt, o2⟩
  refine ⟨_, .slice a1 r.legs.length c1, r.legs.flatMap LegS.vals, rfl, hb, by decide, by rw [List.length_map]; exact o1, fun q hq => ?_, rfl, ?_, fun L β M' id b hM' hL hβ => ?_⟩
  · obtain ⟨x, _, rfl⟩ := List.mem_map.1 hq; rfl
  · rw [flat_pv (vals := LegS.vals) (pv := LegS.pv) (fun _ => rfl) (fun _ => rfl)]
    exact pw_sc.2 ⟨rfl, q1⟩
  · refine .agg _ [_, _, _, _, _, _, _, _, _, _, _, _, _] rfl (fun j p v hp hv => ?_)
    match j, hp, hv with
    | 0, hp, hv => cases hp; cases hv; exact .imm _ _ (.sc _ (rng_i64.2 r0))
    | 1, hp, hv => cases hp; cases hv; exact .imm _ _ (.sc _ (rng_i64.2 r1))
    | 2, hp, hv => cases hp; cases hv; exact .imm _ _ (.sc _ (rng_i64.2 r2))
    | 3, hp, hv => cases hp; cases hv; exact .imm _ _ (.sc _ (rng_i64.2 r3))
    | 4, hp, hv => cases hp; cases hv; exact .imm _ _ (.sc _ (rng_i64.2 r4))
    | 5, hp, hv => cases hp; cases hv; exact .imm _ _ (.sc _ (rng_i64.2 r5))
    | 6, hp, hv => cases hp; cases hv; exact .imm _ _ (.sc _ rfl)
    | 7, hp, hv => cases hp; cases hv; exact .own id 0 _ hL (Nat.zero_le _) (fun _ => by rw [hβ]) rfl
    | 8, hp, hv =>
      cases hp; cases hv
      refine .imm _ _ (pause_sl o2 q2 (fun b hb hm => ?_))
      have hf := (o2.lt b hb).1
      rcases hM' _ hm with h | h
      · have := hM _ h; omega
      · have := hlt _ h; omega
    | 9, hp, hv => cases hp; cases hv; exact .imm _ _ (.sc _ (rng_i64.2 r9))
    | 10, hp, hv => cases hp; cases hv; exact .imm _ _ (.sc _ (rng_i64.2 r10))
    | 11, hp, hv => cases hp; cases hv; exact .imm _ _ (.sc _ (rng_i64.2 r11))
    | 12, hp, hv => cases hp; cases hv; exact .imm _ _ (.sc _ (rng_i64.2 r12))
    | j + 13, hp, hv => simp at hp


end Go.Proofs.Ythgnbkcopapbmaa
