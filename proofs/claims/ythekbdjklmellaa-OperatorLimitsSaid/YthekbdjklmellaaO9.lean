/-
  Operators: contracts in order do not overlap; plain laws of Once and Takes.
-/
import Derived.Test.YthekbdjklmellaaO7
namespace Go.Proofs.Ythekbdjklmellaa
open Go.RowKit
open Nat (reduceAdd reduceEqDiff reduceLT reduceLeDiff reduceSub reducePow reduceMul)
open Int (reduceToNat reduceLE reduceEq)
set_option linter.unusedVariables false
set_option linter.unusedSimpArgs false
set_option linter.unnecessarySimpa false

theorem over_symm {x c : ContrS} : overB x c = overB c x := by
  unfold overB
  rw [Bool.and_right_comm, show (x.bike == c.bike) = (c.bike == x.bike) from BEq.comm]
theorem over_no {x c : ContrS} : overB x c = false ↔ ¬(x.bike = c.bike ∧ x.from_ < c.to_ ∧ c.from_ < x.to_) := by
  rw [← Bool.not_eq_true]
  unfold overB
  simp only [Bool.and_eq_true, beq_iff_eq, decide_eq_true_eq, and_assoc]
theorem hold_iff {b t : Int} {c : ContrS} : holdB b t c = true ↔ c.bike = b ∧ c.from_ ≤ t ∧ t < c.to_ := by
  unfold holdB
  simp only [Bool.and_eq_true, beq_iff_eq, decide_eq_true_eq, and_assoc]
/-- Contracts are in order: not too many, each valid, no two at once. -/
theorem check_iff {l : List ContrS} : checkC l = 0 ↔ l.length ≤ 512 ∧ contrsOk l ∧ l.Pairwise (fun x c => overB x c = false) := by
  constructor
  · intro h
    have h1 := check_len h
    have h2 := contrs_ok h
    refine ⟨h1, h2, ?_⟩
    unfold checkC at h
    rw [if_neg (by omega)] at h
    rw [List.pairwise_iff_getElem]
    intro i j hi hj hij
    have := firstR_zero h j hj
    rw [errC_at hj, if_neg (by rw [h2 _ (List.getElem_mem hj)]; simp)] at this
    cases ho : overB l[i] l[j]
    · rfl
    · rw [if_pos (any_take_yes (Nat.le_of_lt hj) hij ho)] at this; cases this
  · rintro ⟨h1, h2, h3⟩
    unfold checkC
    rw [if_neg (by omega)]
    refine firstR_none (fun j hj => ?_)
    rw [errC_at hj, if_neg (by rw [h2 _ (List.getElem_mem hj)]; simp), if_neg]
    rw [any_take (Nat.le_of_lt hj) (fun i hi hij => by
      rw [List.pairwise_iff_getElem] at h3
      exact h3 i j hi hj hij)]
    simp
theorem hold_unique {l : List ContrS} (h : checkC l = 0) {b t : Int} {i j : Nat} (hi : i < l.length) (hj : j < l.length) (h1 : holdB b t l[i] = true) (h2 : holdB b t l[j] = true) : i = j := by
  have hp := (check_iff.1 h).2.2
  rw [List.pairwise_iff_getElem] at hp
  rw [hold_iff] at h1 h2
  rcases Nat.lt_trichotomy i j with hlt | he | hlt
  · have := over_no.1 (hp i j hi hj hlt); exact absurd ⟨by omega, by omega, by omega⟩ this
  · exact he
  · have := over_no.1 (hp j i hj hi hlt); exact absurd ⟨by omega, by omega, by omega⟩ this
theorem of_hold {l : List ContrS} (h : checkC l = 0) {b t : Int} {c : ContrS} (hc : c ∈ l) (hh : holdB b t c = true) : ofP l b t = .tup [intP c.op, .sc (.bool true)] := by
  obtain ⟨j, hj, rfl⟩ := List.mem_iff_getElem.1 hc
  unfold ofP
  cases hf : l.find? (holdB b t) with
  | none => rw [List.find?_eq_none] at hf; exact absurd hh (by simpa using hf _ hc)
  | some y =>
    obtain ⟨h1, i, hi, e, -⟩ := List.find?_eq_some_iff_getElem.1 hf
    subst e
    have := hold_unique h hi hj h1 hh
    subst this
    rfl
theorem of_none {l : List ContrS} {b t : Int} (hh : ∀ c ∈ l, holdB b t c = false) : ofP l b t = .tup [intP 0, .sc (.bool false)] := by
  unfold ofP
  have : l.find? (holdB b t) = none := by
    rw [List.find?_eq_none]; intro x hx; simp [hh x hx]
  rw [this]
theorem contr_mk {o b f t s : Int} (h1 : 0 ≤ o ∧ o < 8) (h2 : 0 ≤ b ∧ b < 128) (h3 : 0 ≤ f ∧ f < t) (h4 : t ≤ 4294944000) (h5 : 0 ≤ s ∧ s ≤ 1000) : contrB ⟨o, b, f, t, s⟩ = true := by
  simp only [contrB, Bool.and_eq_true, decide_eq_true_eq]; omega
/-- What a takeover does. -/
structure TakeOk (l m : List ContrS) (b t to share : Int) where
  i : Nat
  hi : i < l.length
  hf : l.findIdx? (holdB b t) = some i
  hm : m = baseC l i l[i] t ++ [nextC b t to share l[i]]
  hl : checkC l = 0
  hr : rangeC to share t = false
  hb : ¬ 512 ≤ (baseC l i l[i] t).length
theorem take_cases (l : List ContrS) (b t to share : Int) : ((changeC l b t to share).2 ≠ 0 ∧ (changeC l b t to share).1 = []) ∨ ((changeC l b t to share).2 = 0 ∧ Nonempty (TakeOk l (changeC l b t to share).1 b t to share)) := by
  by_cases h0 : checkC l = 0
  rotate_left
  · left; rw [change_1 h0]; exact ⟨h0, rfl⟩
  cases hr : rangeC to share t
  rotate_left
  · left; rw [change_2 h0 hr]; exact ⟨by decide, rfl⟩
  cases hf : l.findIdx? (holdB b t) with
  | none => left; rw [change_3 h0 hr hf]; exact ⟨by decide, rfl⟩
  | some i =>
    obtain ⟨hi, hh, -⟩ := find_some hf
    have hch := change_4 (to := to) (share := share) hi h0 hr hf
    by_cases hb : 512 ≤ (baseC l i l[i] t).length
    · rw [if_pos hb] at hch
      left; rw [hch]; exact ⟨by decide, rfl⟩
    · rw [if_neg hb] at hch
      right; rw [hch]; exact ⟨rfl, ⟨i, hi, hf, rfl, h0, hr, hb⟩⟩
section
variable {l m : List ContrS} {b t to share : Int} (T : TakeOk l m b t to share)
theorem TakeOk.hold (T : TakeOk l m b t to share) : (l[T.i]'T.hi).bike = b ∧ (l[T.i]'T.hi).from_ ≤ t ∧ t < (l[T.i]'T.hi).to_ := by
  obtain ⟨hi, hh, -⟩ := find_some T.hf
  exact hold_iff.1 hh
theorem TakeOk.mem (T : TakeOk l m b t to share) {x : ContrS} : x ∈ m ↔ (x ∈ l.take T.i ∨ x ∈ l.drop (T.i + 1)) ∨ ((l[T.i]'T.hi).from_ ≠ t ∧ x = { (l[T.i]'T.hi) with to_ := t }) ∨ x = nextC b t to share (l[T.i]'T.hi) := by
  obtain ⟨i, hi, hf, hm, hl, hr, hb⟩ := T
  subst hm
  unfold baseC
  simp only [List.mem_append, List.mem_singleton]
  split
  · rename_i h
    simp only [List.not_mem_nil, or_false]
    constructor
    · rintro ((h1 | h1) | h1)
      · exact .inl (.inl h1)
      · exact .inl (.inr h1)
      · exact .inr (.inr h1)
    · rintro ((h1 | h1) | (h1 | h1))
      · exact .inl (.inl h1)
      · exact .inl (.inr h1)
      · exact absurd h h1.1
      · exact .inr h1
  · rename_i h
    simp only [List.mem_singleton]
    constructor
    · rintro (((h1 | h1) | h1) | h1)
      · exact .inl (.inl h1)
      · exact .inr (.inl ⟨h, h1⟩)
      · exact .inl (.inr h1)
      · exact .inr (.inr h1)
    · rintro ((h1 | h1) | (h1 | h1))
      · exact .inl (.inl (.inl h1))
      · exact .inl (.inr h1)
      · exact .inl (.inl (.inr h1.2))
      · exact .inr h1
theorem split_at {l : List ContrS} {i : Nat} (hi : i < l.length) : l = l.take i ++ l[i] :: l.drop (i + 1) := by
  rw [← List.drop_eq_getElem_cons hi, List.take_append_drop]
theorem TakeOk.old (T : TakeOk l m b t to share) {x : ContrS} : x ∈ l ↔ (x ∈ l.take T.i ∨ x ∈ l.drop (T.i + 1)) ∨ x = l[T.i]'T.hi := by
  have e := split_at T.hi
  constructor
  · intro h
    rw [e] at h
    rcases List.mem_append.1 h with h | h
    · exact .inl (.inl h)
    · rcases List.mem_cons.1 h with h | h
      · exact .inr h
      · exact .inl (.inr h)
  · rintro ((h | h) | h)
    · exact List.mem_of_mem_take h
    · exact List.mem_of_mem_drop h
    · rw [h]; exact List.getElem_mem _
theorem TakeOk.check (T : TakeOk l m b t to share) : checkC m = 0 := by
  obtain ⟨h1, h2, h3⟩ := check_iff.1 T.hl
  obtain ⟨g1, g2, g3⟩ := T.hold
  have hc := h2 _ (List.getElem_mem T.hi)
  have hr := T.hr
  simp only [rangeC, Bool.or_eq_false_iff, decide_eq_false_iff_not] at hr
  have hcc := hc
  simp only [contrB, Bool.and_eq_true, decide_eq_true_eq] at hcc
  rw [check_iff]
  refine ⟨?_, fun x hx => ?_, ?_⟩
  · rw [T.hm, List.length_append, List.length_singleton]; have := T.hb; omega
  · rcases T.mem.1 hx with (hx | hx) | hx | hx
    · exact h2 x (List.mem_of_mem_take hx)
    · exact h2 x (List.mem_of_mem_drop hx)
    · rw [hx.2]
      simp only [contrB, Bool.and_eq_true, decide_eq_true_eq]; have := hx.1; omega
    · rw [hx]
      exact contr_mk ⟨by omega, by omega⟩ ⟨by omega, by omega⟩ ⟨by omega, by omega⟩ (by omega) ⟨by omega, by omega⟩
  · have e := split_at T.hi
    rw [e, List.pairwise_append, List.pairwise_cons] at h3
    obtain ⟨p1, ⟨p2, p3⟩, p4⟩ := h3
    -- a part of the contract overlaps with nothing that it did not overlap with before
    have part : ∀ x y : ContrS, overB x (l[T.i]'T.hi) = false → y.bike = (l[T.i]'T.hi).bike → (l[T.i]'T.hi).from_ ≤ y.from_ → y.to_ ≤ (l[T.i]'T.hi).to_ → overB x y = false := by
      intro x y ho e1 e2 e3
      rw [over_no] at ho ⊢
      intro hh; exact ho ⟨by omega, by omega, by omega⟩
    have q1 : ∀ x ∈ l.take T.i, overB x (l[T.i]'T.hi) = false := fun x hx => p4 x hx _ List.mem_cons_self
    have q2 : ∀ x ∈ l.drop (T.i + 1), overB x (l[T.i]'T.hi) = false := fun x hx => by rw [over_symm]; exact p2 x hx
    have q3 : ∀ x ∈ l.take T.i, ∀ y ∈ l.drop (T.i + 1), overB x y = false := fun x hx y hy => p4 x hx y (List.mem_cons_of_mem _ hy)
    rw [T.hm]
    unfold baseC
    rw [List.pairwise_append]
    refine ⟨?_, List.pairwise_singleton _ _, fun x hx y hy => ?_⟩
    · rw [List.pairwise_append, List.pairwise_append]
      refine ⟨⟨p1, ?_, fun x hx y hy => ?_⟩, p3, fun x hx y hy => ?_⟩
      · split
        · exact List.Pairwise.nil
        · exact List.pairwise_singleton _ _
      · split at hy
        · cases hy
        · rw [List.mem_singleton] at hy; subst hy
          exact part x _ (q1 x hx) rfl (Int.le_refl _) (Int.le_of_lt g3)
      · rcases List.mem_append.1 hx with hx | hx
        · exact q3 x hx y hy
        · split at hx
          · cases hx
          · rw [List.mem_singleton] at hx; subst hx
            rw [over_symm]
            exact part y _ (q2 y hy) rfl (Int.le_refl _) (Int.le_of_lt g3)
    · rw [List.mem_singleton] at hy; subst hy
      rcases List.mem_append.1 hx with hx | hx
      · rcases List.mem_append.1 hx with hx | hx
        · exact part x _ (q1 x hx) g1.symm g2 (Int.le_refl _)
        · split at hx
          · cases hx
          · rw [List.mem_singleton] at hx; subst hx
            rw [over_no]
            intro hh
            simp only [nextC] at hh
            omega
      · exact part x _ (q2 x hx) g1.symm g2 (Int.le_refl _)
/-- Who runs a bicycle behind a takeover. -/
theorem TakeOk.of_new (T : TakeOk l m b t to share) {b2 t2 : Int} (h1 : b2 = b) (h2 : t ≤ t2) (h3 : t2 < (l[T.i]'T.hi).to_) : ofP m b2 t2 = .tup [intP to, .sc (.bool true)] :=
  of_hold T.check (c := nextC b t to share (l[T.i]'T.hi)) (T.mem.2 (.inr (.inr rfl))) (hold_iff.2 ⟨h1.symm, h2, h3⟩)
theorem TakeOk.of_old (T : TakeOk l m b t to share) {b2 t2 : Int} (h : ¬(b2 = b ∧ t ≤ t2 ∧ t2 < (l[T.i]'T.hi).to_)) : ofP m b2 t2 = ofP l b2 t2 := by
  obtain ⟨g1, g2, g3⟩ := T.hold
  by_cases he : ∃ y ∈ l, holdB b2 t2 y = true
  · obtain ⟨y, hy, hh⟩ := he
    rw [of_hold T.hl hy hh]
    rcases T.old.1 hy with hy2 | hy2
    · exact of_hold T.check (T.mem.2 (.inl hy2)) hh
    · subst hy2
      have hq := hold_iff.1 hh
      have hc := of_hold T.check (b := b2) (t := t2) (c := { (l[T.i]'T.hi) with to_ := t }) (T.mem.2 (.inr (.inl ⟨by omega, rfl⟩))) (hold_iff.2 ⟨hq.1, hq.2.1, by show t2 < t; omega⟩)
      exact hc
  · have hn : ∀ y ∈ l, holdB b2 t2 y = false := fun y hy => by
      cases hh : holdB b2 t2 y
      · rfl
      · exact absurd ⟨y, hy, hh⟩ he
    rw [of_none hn]
    refine of_none (fun x hx => ?_)
    rcases T.mem.1 hx with hx | hx | hx
    · exact hn x (T.old.2 (.inl hx))
    · rw [hx.2]
      have := hn _ (List.getElem_mem T.hi)
      rw [← Bool.not_eq_true, hold_iff] at this ⊢
      intro hq
      simp only at hq
      exact this ⟨hq.1, hq.2.1, by omega⟩
    · rw [hx, ← Bool.not_eq_true, hold_iff]
      simp only [nextC]
      intro hq
      exact h ⟨hq.1.symm, hq.2.1, hq.2.2⟩
end


end Go.Proofs.Ythekbdjklmellaa
