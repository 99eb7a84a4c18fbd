/-
  Inspections: the contract of the program's last inspection, and of Blocked.
-/
import Derived.Test.YthgnbkcopapbmaaIm
namespace Go.Proofs.Ythgnbkcopapbmaa
open Go.RowKit
open Nat (reduceAdd reduceEqDiff reduceLT reduceLeDiff reduceSub reducePow reduceMul)
open Int (reduceToNat reduceLE reduceEq)
set_option linter.unusedVariables false
set_option linter.unusedSimpArgs false
set_option linter.unnecessarySimpa false


open Go.Shelf
theorem ite_or {α : Type} (p : Prop) [Decidable p] (a b : α) : (if p then a else b) = a ∨ (if p then a else b) = b := by
  by_cases h : p <;> simp [h]
theorem lastL_mem {l : List CheckS} {b k t : Int} : ∀ {c : CheckS}, lastL l b k t = some c → c ∈ l := by
  have key : ∀ (l : List CheckS) (m : Option CheckS) (c : CheckS), l.foldl (stepB b k t) m = some c → c ∈ l ∨ m = some c := by
    intro l
    induction l with
    | nil => intro m c h; exact .inr h
    | cons x l ih =>
      intro m c h
      rcases ih _ _ h with h | h
      · exact .inl (List.mem_cons_of_mem _ h)
      · have e : stepB b k t m x = some x ∨ stepB b k t m x = m := ite_or _ _ _
        rcases e with e | e
        · rw [e] at h; cases h; exact .inl List.mem_cons_self
        · rw [e] at h; exact .inr h
  intro c h
  rcases key l none c h with h | h
  · exact h
  · cases h
theorem four_cells {n : Nat} {w : World} {b o : Nat} {u : List Value} {v0 v1 v2 v3 : Value} (hu : u = [v0, v1, v2, v3]) (h : ∀ (j : Nat) (x : Value), u[j]? = some x → w.cell? ⟨b, n + j, none⟩ = some x) : w.cell? ⟨b, n, none⟩ = some v0 ∧ w.cell? ⟨b, n + 1, none⟩ = some v1 ∧ w.cell? ⟨b, n + 2, none⟩ = some v2 ∧ w.cell? ⟨b, n + 3, none⟩ = some v3 := by
  subst hu; exact ⟨h 0 _ rfl, h 1 _ rfl, h 2 _ rfl, h 3 _ rfl⟩
theorem last_g (l : List CheckS) (bike kind now : Int) : Good Try.prog 18 [.sl (l.map CheckS.pv), intP bike, intP kind, intP now] (lastP (lastL l bike kind now)) := by
  intro M w vs hM hp
  simp only [intP, pw_cons, pw_nil, rep_sc] at hp
  obtain ⟨v, _, rfl, h1, _, _, rfl, ⟨rfl, r1⟩, _, _, rfl, ⟨rfl, r2⟩, _, _, rfl, ⟨rfl, r3⟩, rfl⟩ := hp
  obtain ⟨a, cap, rfl, hl1, hl2, -, vals, hv, hcell⟩ := of_sl CheckS.pv (n := 4) (fun x _ => rfl) h1
  have hfl : ∀ i (h : i < l.length), vals i = [.int .i64 l[i].bike, .int .i64 l[i].kind, .int .i64 l[i].at_, .bool l[i].good] ∧ rngB (.int .i64 l[i].bike) = true ∧ rngB (.int .i64 l[i].kind) = true ∧ rngB (.int .i64 l[i].at_) = true := by
    intro i h
    have := hv i h
    have e : (CheckS.pv l[i]).flat = [.sc (.int .i64 l[i].bike), .sc (.int .i64 l[i].kind), .sc (.int .i64 l[i].at_), .sc (.bool l[i].good)] := rfl
    rw [e] at this
    simp only [pw_cons, pw_nil, rep_sc] at this
    obtain ⟨_, _, h0, ⟨rfl, q0⟩, _, _, h1, ⟨rfl, q1⟩, _, _, h2, ⟨rfl, q2⟩, _, _, h3, ⟨rfl, q3⟩, rfl⟩ := this
    subst h3 h2 h1
    exact ⟨h0, q0, q1, q2⟩
  refine (callsIn_wide (n := 3)).1 ((last16 Fence.wide 3 trivial trivial trivial rfl (Nat.le_refl _) a cap l bike kind now w (Nat.le_trans hl1 hl2) (fun h => ?_)).mono ?_)
  · obtain ⟨s, off, rfl, hs, -, hc⟩ := hcell h
    exact ⟨s, off, rfl, hs, fun j hj => four_cells (o := off) (hfl j hj).1 (hc j hj)⟩
  · rintro e W' ⟨rfl, hb⟩
    refine ⟨_, rfl, hb, ?_⟩
    cases hm : lastL l bike kind now with
    | none =>
      refine tup_pw.2 ⟨[.agg (lastC none), .bool false], rfl, ?_⟩
      simp only [pw_cons, pw_nil, rep_sc]
      refine ⟨_, _, rfl, ?_, _, _, rfl, ⟨rfl, rfl⟩, rfl⟩
      refine agg_pw.2 ⟨[.int .i64 0, .int .i64 0, .int .i64 0, .bool false], rfl, ?_⟩
      simp only [CheckS.vals, zeroK, List.map_cons, List.map_nil, pw_cons, pw_nil, rep_sc]
      exact ⟨_, _, rfl, ⟨rfl, rfl⟩, _, _, rfl, ⟨rfl, rfl⟩, _, _, rfl, ⟨rfl, rfl⟩, _, _, rfl, ⟨rfl, rfl⟩, rfl⟩
    | some c =>
      obtain ⟨i, hi, rfl⟩ := List.mem_iff_getElem.1 (lastL_mem hm)
      obtain ⟨-, q0, q1, q2⟩ := hfl i hi
      refine tup_pw.2 ⟨[.agg (lastC (some l[i])), .bool true], rfl, ?_⟩
      simp only [pw_cons, pw_nil, rep_sc]
      refine ⟨_, _, rfl, ?_, _, _, rfl, ⟨rfl, rfl⟩, rfl⟩
      refine agg_pw.2 ⟨[.int .i64 l[i].bike, .int .i64 l[i].kind, .int .i64 l[i].at_, .bool l[i].good], rfl, ?_⟩
      simp only [CheckS.vals, List.map_cons, List.map_nil, pw_cons, pw_nil, rep_sc]
      exact ⟨_, _, rfl, ⟨rfl, q0⟩, _, _, rfl, ⟨rfl, q1⟩, _, _, rfl, ⟨rfl, q2⟩, _, _, rfl, ⟨rfl, rfl⟩, rfl⟩
end Go.Proofs.Ythgnbkcopapbmaa
