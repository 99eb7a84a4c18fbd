/-
  Operators: no contracts, and contracts for all or for nothing, in plain Lean.
-/
import Derived.Test.YthekbdjklmellaaO9
namespace Go.Proofs.Ythekbdjklmellaa
open Go.RowKit
open Nat (reduceAdd reduceEqDiff reduceLT reduceLeDiff reduceSub reducePow reduceMul)
open Int (reduceToNat reduceLE reduceEq)
set_option linter.unusedVariables false
set_option linter.unusedSimpArgs false
set_option linter.unnecessarySimpa false

theorem two_left {p : Int} {a b : Int} (hp : 0 ≤ p) (hp2 : p ≤ 1000000000000) (hab : a = 1000 ∧ b = 0 ∨ a = 0 ∧ b = 1000) : (shareL p [a, b]).1 = [if a = 0 then 0 else p, if a = 0 then p else 0] := by
  have hb : b = 1000 - a := by omega
  have hk := two_ok hp hp2 (s := a) (by omega) (by omega)
  obtain ⟨t1, t2, t3, t4⟩ := two_fact hp hp2 (s := a) (by omega) (by omega)
  rw [← hb] at hk t1 t2 t3 t4
  have h1 : (inB p && decide (1 ≤ [a, b].length) && decide ([a, b].length ≤ 512) && [a, b].all inB) = true := by
    have b1 := inB_iff.2 ⟨hp, show p ≤ 1125899906842624 by omega⟩
    have b2 := inB_iff.2 ⟨show 0 ≤ a by omega, show a ≤ 1125899906842624 by omega⟩
    have b3 := inB_iff.2 ⟨show 0 ≤ b by omega, show b ≤ 1125899906842624 by omega⟩
    simp [b1, b2, b3]
  have hsum : (natsL [a, b]).sum = 1000 := by simp only [natsL, List.map_cons, List.map_nil, List.sum_cons, List.sum_nil]; omega
  have e := share_ok h1 (by rw [hsum]; decide) (by rw [hsum]; simp)
  have e1 : (shareL p [a, b]).1 = shareN p.toNat (natsL [a, b]) := by rw [e]
  rw [e1] at t1 t4 ⊢
  have q : leftN p.toNat (natsL [a, b]) = 0 := by
    unfold leftN sumQ
    rw [hsum]
    rcases hab with ⟨rfl, rfl⟩ | ⟨rfl, rfl⟩ <;> simp [natsL] <;> omega
  refine el_ext (by rw [t1]; rfl) (fun i hi => ?_)
  rw [t1] at hi
  have z : el (shareN p.toNat (natsL [a, b])) i = (qN p.toNat 1000 (natsL [a, b]) i : Int) := by
    unfold shareN
    rw [tab_el (by rw [natsL_len]; exact hi), q, if_neg (Nat.not_lt_zero _), hsum, Int.add_zero]
  rw [z]
  match i, hi with
  | 0, _ => rcases hab with ⟨rfl, rfl⟩ | ⟨rfl, rfl⟩ <;> simp [qN, natsL, el] <;> omega
  | 1, _ => rcases hab with ⟨rfl, rfl⟩ | ⟨rfl, rfl⟩ <;> simp [qN, natsL, el] <;> omega
def lineL (j a : Int) : List LineS := if a = 0 then [] else [⟨j, a⟩]
theorem lines_one {j : Nat} (hj : j < 9) (S : Int) : linesK (acc0.set j S) 9 = lineL (j : Int) S := by
  unfold lineL linesK
  rw [show List.range 9 = [0, 1, 2, 3, 4, 5, 6, 7, 8] from rfl]
  by_cases h : S = 0
  · rw [if_pos h]; subst h
    match j, hj with
    | 0, _ | 1, _ | 2, _ | 3, _ | 4, _ | 5, _ | 6, _ | 7, _ | 8, _ => rfl
  · rw [if_neg h]
    match j, hj with
    | 0, _ | 1, _ | 2, _ | 3, _ | 4, _ | 5, _ | 6, _ | 7, _ | 8, _ => simp [acc0, el, h]
theorem accK_one {l : List ContrS} {legs : List LegS} {ps : List Int} {j : Nat} (hj : j < 9) (hlen : ps.length = legs.length) (hp : ∀ x ∈ ps, 0 ≤ x) (hs : ps.sum ≤ 1000000000000) (hst : ∀ g ∈ legs, ∀ p S : Int, 0 ≤ p → p ≤ 1000000000000 → stepA l g p (acc0.set j S) = acc0.set j (S + p)) : ∀ k, k ≤ legs.length → accK l legs ps k = acc0.set j (ps.take k).sum
  | 0, _ => by
    match j, hj with
    | 0, _ | 1, _ | 2, _ | 3, _ | 4, _ | 5, _ | 6, _ | 7, _ | 8, _ => rfl
  | k + 1, h => by
    have hm := el_mem (l := ps) (i := k) (by omega)
    rw [accK_succ h, accK_one hj hlen hp hs hst k (by omega), hst _ (List.getElem_mem h) _ _ (hp _ hm) (Int.le_trans (mem_le_sum hp hm) hs), sum_take_el (by omega)]
def conL (who s : Int) (bikes : List Int) : List ContrS := bikes.map fun b => ⟨who, b, 0, 4294944000, s⟩
theorem con_none {g : LegS} {p S : Int} : stepA [] g p (acc0.set 0 S) = acc0.set 0 (S + p) := rfl
theorem con_find {who s : Int} {bikes : List Int} {g : LegS} (hb : g.bike ∈ bikes) (h0 : 0 ≤ g.from_.lo) (h1 : g.from_.lo ≤ 4294943999) : ∃ c, (conL who s bikes).find? (holdB g.bike g.from_.lo) = some c ∧ c.op = who ∧ c.share = s := by
  cases h : (conL who s bikes).find? (holdB g.bike g.from_.lo) with
  | none =>
    exfalso
    rw [List.find?_eq_none] at h
    have hm : (⟨who, g.bike, 0, 4294944000, s⟩ : ContrS) ∈ conL who s bikes := List.mem_map.2 ⟨_, hb, rfl⟩
    exact h _ hm (hold_iff.2 ⟨rfl, h0, by show g.from_.lo < 4294944000; omega⟩)
  | some c =>
    obtain ⟨b, _, rfl⟩ := List.mem_map.1 (List.mem_of_find?_eq_some h)
    exact ⟨_, rfl, rfl, rfl⟩
theorem con_step {who s : Int} {bikes : List Int} {g : LegS} {p S : Int} {j : Nat} (hj : j < 9) (hj1 : 1 ≤ j) (hw : 1 + who = (j : Int)) (hb : g.bike ∈ bikes) (h0 : 0 ≤ g.from_.lo) (h1 : g.from_.lo ≤ 4294943999) (hp : 0 ≤ p) (hp2 : p ≤ 1000000000000) :
    (s = 1000 → stepA (conL who s bikes) g p (acc0.set j S) = acc0.set j (S + p)) ∧ (s = 0 → stepA (conL who s bikes) g p (acc0.set 0 S) = acc0.set 0 (S + p)) := by
  obtain ⟨c, hc, e1, e2⟩ := con_find (who := who) (s := s) hb h0 h1
  have hjn : (1 + who).toNat = j := by omega
  unfold stepA
  rw [hc]
  simp only [e1, e2, hjn]
  constructor
  · intro hs
    subst hs
    rw [show (1000 : Int) - 1000 = 0 from rfl, two_left hp hp2 (.inl ⟨rfl, rfl⟩), if_neg (by decide), if_neg (by decide)]
    match j, hj with
    | 1, _ | 2, _ | 3, _ | 4, _ | 5, _ | 6, _ | 7, _ | 8, _ => rfl
  · intro hs
    subst hs
    rw [show (1000 : Int) - 0 = 1000 from rfl, two_left hp hp2 (.inr ⟨rfl, rfl⟩), if_pos rfl, if_pos rfl]
    match j, hj with
    | 1, _ | 2, _ | 3, _ | 4, _ | 5, _ | 6, _ | 7, _ | 8, _ => rfl
/-- The bikes of the first legs, each once. -/
def bikesK (legs : List LegS) : Nat → List Int
  | 0 => []
  | k + 1 => match legs[k]? with
    | some g => if g.bike ∈ bikesK legs k then bikesK legs k else bikesK legs k ++ [g.bike]
    | none => bikesK legs k
theorem bikes_succ {legs : List LegS} {k : Nat} (hk : k < legs.length) : bikesK legs (k + 1) = if legs[k].bike ∈ bikesK legs k then bikesK legs k else bikesK legs k ++ [legs[k].bike] := by
  rw [bikesK, List.getElem?_eq_getElem hk]
theorem bikes_ok {legs : List LegS} : ∀ k, k ≤ legs.length → (bikesK legs k).length ≤ k ∧ (bikesK legs k).Nodup ∧ (∀ b ∈ bikesK legs k, ∃ g ∈ legs, g.bike = b) ∧ (∀ i (hi : i < legs.length), i < k → legs[i].bike ∈ bikesK legs k)
  | 0, _ => ⟨Nat.le_refl _, List.nodup_nil, nofun, nofun⟩
  | k + 1, h => by
    obtain ⟨h1, h2, h3, h4⟩ := bikes_ok (legs := legs) k (by omega)
    rw [bikes_succ h]
    split
    · rename_i hm
      refine ⟨by omega, h2, h3, fun i hi hik => ?_⟩
      by_cases e : i = k
      · subst e; exact hm
      · exact h4 i hi (by omega)
    · rename_i hm
      refine ⟨by simp; omega, ?_, fun b hb => ?_, fun i hi hik => ?_⟩
      · rw [List.nodup_append]
        refine ⟨h2, by simp, fun a ha b hb e => ?_⟩
        rw [List.mem_singleton] at hb
        subst e; subst hb; exact hm ha
      · rcases List.mem_append.1 hb with hb | hb
        · exact h3 b hb
        · rw [List.mem_singleton] at hb; exact ⟨_, List.getElem_mem h, hb.symm⟩
      · by_cases e : i = k
        · subst e; simp
        · exact List.mem_append_left _ (h4 i hi (by omega))
def rightB (legs : List LegS) (k : Nat) : Bool := (legs.take k).all (fun g => decide (0 ≤ g.bike) && decide (g.bike < 128))
theorem right_succ {legs : List LegS} {k : Nat} (hk : k < legs.length) : rightB legs (k + 1) = (rightB legs k && decide (0 ≤ legs[k].bike) && decide (legs[k].bike < 128)) := by
  unfold rightB
  rw [List.take_succ_eq_append_getElem hk, List.all_append, Bool.and_assoc]; simp
theorem con_check {who s : Int} {bikes : List Int} (hw : 0 ≤ who) (hw2 : who < 8) (hs : 0 ≤ s) (hs2 : s ≤ 1000) (hl : bikes.length ≤ 512) (hn : bikes.Nodup) (hr : ∀ b ∈ bikes, 0 ≤ b ∧ b < 128) : checkC (conL who s bikes) = 0 := by
  refine check_iff.2 ⟨by unfold conL; rw [List.length_map]; exact hl, fun c hc => ?_, ?_⟩
  · obtain ⟨b, hb, rfl⟩ := List.mem_map.1 hc
    have := hr b hb
    simp only [contrB, Bool.and_eq_true, decide_eq_true_eq]; omega
  · unfold conL
    rw [List.pairwise_map]
    refine hn.imp (fun {a b} hne => ?_)
    exact over_no.2 (fun h => hne h.1)
theorem limits_cases (r : RideS) (amount : Int) : ((sharesC [] r amount).2 ≠ 0 ∧ (sharesC [] r amount).1 = []) ∨ ((sharesC [] r amount).2 = 0 ∧ (sharesC [] r amount).1 = lineL 0 amount ∧ r.legs.length ≤ 512 ∧
    ∀ who, 0 ≤ who → who < 8 → rightB r.legs r.legs.length = true → sharesC (conL who 1000 (bikesK r.legs r.legs.length)) r amount = (lineL (1 + who) amount, 0) ∧ sharesC (conL who 0 (bikesK r.legs r.legs.length)) r amount = (lineL 0 amount, 0)) := by
  have h0 : checkC [] = 0 := rfl
  by_cases h1 : checkL r = 0
  case neg => rw [sharesC_2 h0 h1]; exact .inl ⟨h1, rfl⟩
  cases h2 : r.open_
  case true => rw [sharesC_3 h0 h1 h2]; exact .inl ⟨by simp, rfl⟩
  by_cases h34 : amount < 0 ∨ 1000000000000 < amount
  case pos => rw [sharesC_4 h0 h1 h2 h34]; exact .inl ⟨by simp, rfl⟩
  by_cases h5 : (shareL amount (weightsL r)).2 = 0
  case neg => rw [sharesC_5 h0 h1 h2 h34 h5]; exact .inl ⟨by simpa using h5, rfl⟩
  obtain ⟨hok, hl1, hl2⟩ := ride_legs h1
  obtain ⟨f1, f2, f3⟩ := share_fact h5
  have fl : (shareL amount (weightsL r)).1.length = r.legs.length := by rw [f1, weights_len]
  have tk : (shareL amount (weightsL r)).1.take r.legs.length = (shareL amount (weightsL r)).1 := List.take_of_length_le (by omega)
  have main : ∀ (l : List ContrS) (j : Nat), j < 9 → checkC l = 0 → (∀ g ∈ r.legs, ∀ p S : Int, 0 ≤ p → p ≤ 1000000000000 → stepA l g p (acc0.set j S) = acc0.set j (S + p)) → sharesC l r amount = (lineL (j : Int) amount, 0) := by
    intro l j hj hl hst
    rw [sharesC_6 hl h1 h2 h34 h5, accK_one hj fl f3 (by omega) hst _ (Nat.le_refl _), tk, f2, lines_one hj]
  have e0 := main [] 0 (by omega) h0 (fun g _ p S _ _ => con_none)
  refine .inr ⟨by rw [e0], by rw [e0]; rfl, hl2, fun who hw hw2 hr => ?_⟩
  obtain ⟨k1, k2, k3, k4⟩ := bikes_ok (legs := r.legs) r.legs.length (Nat.le_refl _)
  have hall : ∀ b ∈ bikesK r.legs r.legs.length, 0 ≤ b ∧ b < 128 := fun b hb => by
    obtain ⟨g, hg, rfl⟩ := k3 b hb
    unfold rightB at hr
    rw [List.take_length] at hr
    have := List.all_eq_true.1 hr g hg
    simpa using this
  have hin : ∀ g ∈ r.legs, g.bike ∈ bikesK r.legs r.legs.length := fun g hg => by
    obtain ⟨i, hi, rfl⟩ := List.mem_iff_getElem.1 hg
    exact k4 i hi hi
  have hj : (1 + who).toNat < 9 := by omega
  have hjw : 1 + who = ((1 + who).toNat : Int) := by omega
  refine ⟨?_, ?_⟩
  · have := main _ (1 + who).toNat hj (con_check (s := 1000) hw hw2 (by omega) (by omega) (by omega) k2 hall) (fun g hg p S hp hp2 => (con_step hj (by omega) hjw (hin g hg) (hok g hg).1 (hok g hg).2.1 hp hp2).1 rfl)
    rw [this, ← hjw]
  · exact main _ 0 (by omega) (con_check (s := 0) hw hw2 (by omega) (by omega) (by omega) k2 hall) (fun g hg p S hp hp2 => (con_step hj (by omega) hjw (hin g hg) (hok g hg).1 (hok g hg).2.1 hp hp2).2 rfl)


end Go.Proofs.Ythekbdjklmellaa
