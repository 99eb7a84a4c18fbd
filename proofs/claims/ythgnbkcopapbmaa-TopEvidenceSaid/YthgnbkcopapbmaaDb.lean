/-
  Plain laws of evidence: what stays, what is refused again, and that the order plays no part.
-/
import Derived.Test.YthgnbkcopapbmaaDa
namespace Go.Proofs.Ythgnbkcopapbmaa
open Go.RowKit
open Nat (reduceAdd reduceEqDiff reduceLT reduceLeDiff reduceSub reducePow reduceMul)
open Int (reduceToNat reduceLE reduceEq)
set_option linter.unusedVariables false
set_option linter.unusedSimpArgs false
set_option linter.unnecessarySimpa false

theorem takes_iff {r : RideS} {c : SpanS} {e : EvS} : takes r c e = true ↔ e.ride = r.id ∧ r.open_ = false ∧ validL e.end_ = true ∧ (commonL c e.end_).lo ≤ (commonL c e.end_).hi := by
  simp only [takes, Bool.and_eq_true, decide_eq_true_eq, Bool.not_eq_true']
theorem fold_truth {r : RideS} (ho : r.open_ = false) {t : Int} : ∀ (c : SpanS) (i : Nat) (l : List EvS), (c.lo ≤ t ∧ t ≤ c.hi) → (∀ e ∈ l, e.ride = r.id → validL e.end_ = true → e.end_.lo ≤ t ∧ t ≤ e.end_.hi) →
    ((foldE r c l).lo ≤ t ∧ t ≤ (foldE r c l).hi) ∧ ∀ k ∈ refF r c i l, ∃ (j : Nat) (h : j < l.length), k = ((i + j : Nat) : Int) ∧ ¬ (l[j].ride = r.id ∧ validL l[j].end_ = true)
  | c, i, [], hc, _ => ⟨hc, nofun⟩
  | c, i, e :: l, hc, hl => by
    have hl' : ∀ e ∈ l, e.ride = r.id → validL e.end_ = true → e.end_.lo ≤ t ∧ t ≤ e.end_.hi := fun x hx => hl x (by simp [hx])
    have up : ∀ k, (∃ (j : Nat) (h : j < l.length), k = ((i + 1 + j : Nat) : Int) ∧ ¬ (l[j].ride = r.id ∧ validL l[j].end_ = true)) → ∃ (j : Nat) (h : j < (e :: l).length), k = ((i + j : Nat) : Int) ∧ ¬ ((e :: l)[j].ride = r.id ∧ validL (e :: l)[j].end_ = true) := by
      rintro k ⟨j, h, rfl, h2⟩
      exact ⟨j + 1, by simpa using h, by congr 1; omega, by simpa using h2⟩
    cases ht : takes r c e
    · obtain ⟨a1, a2⟩ := fold_truth ho c (i + 1) l hc hl'
      simp only [foldE, refF, ht, Bool.false_eq_true, if_false]
      refine ⟨a1, fun k hk => ?_⟩
      rcases List.mem_cons.1 hk with rfl | hk
      · refine ⟨0, by simp, by simp, fun ⟨h1, h2⟩ => ?_⟩
        have := hl e (by simp) h1 h2
        have ht2 : takes r c e = true := takes_iff.2 ⟨h1, ho, h2, by simp only [commonL]; omega⟩
        rw [ht2] at ht; cases ht
      · exact up k (a2 k hk)
    · obtain ⟨h1, _, h2, _⟩ := takes_iff.1 ht
      have := hl e (by simp) h1 h2
      obtain ⟨a1, a2⟩ := fold_truth ho (commonL c e.end_) (i + 1) l (by simp only [commonL]; omega) hl'
      simp only [foldE, refF, ht, if_true]
      exact ⟨a1, fun k hk => up k (a2 k hk)⟩
theorem fold_sub (r : RideS) : ∀ (c : SpanS) (l : List EvS), c.lo ≤ (foldE r c l).lo ∧ (foldE r c l).hi ≤ c.hi ∧ (c.lo ≤ c.hi → (foldE r c l).lo ≤ (foldE r c l).hi)
  | c, [] => ⟨Int.le_refl _, Int.le_refl _, id⟩
  | c, e :: l => by
    cases ht : takes r c e
    · simp only [foldE, ht, Bool.false_eq_true, if_false]; exact fold_sub r c l
    · obtain ⟨a1, a2, a3⟩ := fold_sub r (commonL c e.end_) l
      have h4 := (takes_iff.1 ht).2.2.2
      have := common_lo c e.end_
      simp only [foldE, ht, if_true]
      exact ⟨by omega, by omega, fun _ => a3 h4⟩
theorem common_in {d c : SpanS} (h1 : c.lo ≤ d.lo) (h2 : d.hi ≤ c.hi) : commonL d c = d := by
  cases d; simp only [commonL] at *; congr 1 <;> omega
/-- The same evidence again. -/
theorem fold_again (r : RideS) : ∀ (c : SpanS) (i : Nat) (l : List EvS), c.lo ≤ c.hi → foldE r (foldE r c l) l = foldE r c l ∧ refF r (foldE r c l) i l = refF r c i l
  | c, i, [], _ => ⟨rfl, rfl⟩
  | c, i, e :: l, hc => by
    cases ht : takes r c e
    · obtain ⟨a1, a2⟩ := fold_again r c (i + 1) l hc
      have hs := fold_sub r c l
      have h2 : takes r (foldE r c l) e = false := by
        cases h : takes r (foldE r c l) e
        · rfl
        · obtain ⟨g1, g2, g3, g4⟩ := takes_iff.1 h
          rw [takes_iff.2 ⟨g1, g2, g3, by simp only [commonL] at g4 ⊢; omega⟩] at ht
          cases ht
      simp only [foldE, refF, ht, h2, Bool.false_eq_true, if_false]
      exact ⟨a1, by rw [a2]⟩
    · obtain ⟨g1, g2, g3, g4⟩ := takes_iff.1 ht
      obtain ⟨a1, a2⟩ := fold_again r (commonL c e.end_) (i + 1) l g4
      have hs := fold_sub r (commonL c e.end_) l
      have hn := hs.2.2 g4
      have hcl := common_lo c e.end_
      have e1 : commonL (foldE r (commonL c e.end_) l) e.end_ = foldE r (commonL c e.end_) l := common_in (by omega) (by omega)
      have h2 : takes r (foldE r (commonL c e.end_) l) e = true := takes_iff.2 ⟨g1, g2, g3, by rw [e1]; exact hn⟩
      simp only [foldE, refF, ht, if_true, h2, e1]
      exact ⟨a1, a2⟩
/-- What is accepted. -/
def accF (r : RideS) : SpanS → List EvS → List EvS
  | _, [] => []
  | c, e :: l => if takes r c e then e :: accF r (commonL c e.end_) l else accF r c l
theorem fold_acc (r : RideS) : ∀ (c : SpanS) (i : Nat) (l : List EvS), foldE r c (accF r c l) = foldE r c l ∧ refF r c i (accF r c l) = []
  | _, _, [] => ⟨rfl, rfl⟩
  | c, i, e :: l => by
    cases ht : takes r c e
    · simp only [accF, foldE, ht, Bool.false_eq_true, if_false]; exact fold_acc r c i l
    · simp only [accF, foldE, refF, ht, if_true]; exact fold_acc r (commonL c e.end_) (i + 1) l
theorem acc_len (r : RideS) : ∀ (c : SpanS) (l : List EvS), (accF r c l).length ≤ l.length
  | _, [] => Nat.le_refl _
  | c, e :: l => by
    cases ht : takes r c e
    · simp only [accF, ht, Bool.false_eq_true, if_false]; have := acc_len r c l; simp; omega
    · simp only [accF, ht, if_true]; have := acc_len r (commonL c e.end_) l; simp; omega
theorem ref_ge (r : RideS) : ∀ (c : SpanS) (i : Nat) (l : List EvS), ∀ k ∈ refF r c i l, (i : Int) ≤ k
  | _, _, [] => nofun
  | c, i, e :: l => by
    intro k hk
    cases ht : takes r c e
    · simp only [refF, ht, Bool.false_eq_true, if_false] at hk
      rcases List.mem_cons.1 hk with rfl | hk
      · exact Int.le_refl _
      · have := ref_ge r c (i + 1) l k hk; omega
    · simp only [refF, ht, if_true] at hk
      have := ref_ge r _ (i + 1) l k hk; omega
/-- All of it is right, and agrees. -/
theorem fold_right {r : RideS} (ho : r.open_ = false) : ∀ (c : SpanS) (i : Nat) (l : List EvS), (∀ e ∈ l, e.ride = r.id ∧ validL e.end_ = true) → (l.foldl (fun a e => commonL a e.end_) c).lo ≤ (l.foldl (fun a e => commonL a e.end_) c).hi → foldE r c l = l.foldl (fun a e => commonL a e.end_) c ∧ refF r c i l = []
  | _, _, [], _, _ => ⟨rfl, rfl⟩
  | c, i, e :: l, hl, hn => by
    have sub : ∀ (l : List EvS) (c : SpanS), c.lo ≤ (l.foldl (fun a e => commonL a e.end_) c).lo ∧ (l.foldl (fun a e => commonL a e.end_) c).hi ≤ c.hi := by
      intro l
      induction l with
      | nil => intro c; exact ⟨Int.le_refl _, Int.le_refl _⟩
      | cons x l ih => intro c; have := ih (commonL c x.end_); have := common_lo c x.end_; simp only [List.foldl_cons]; omega
    simp only [List.foldl_cons] at hn
    have hs := sub l (commonL c e.end_)
    obtain ⟨g1, g2⟩ := hl e (by simp)
    have ht : takes r c e = true := takes_iff.2 ⟨g1, ho, g2, by omega⟩
    obtain ⟨a1, a2⟩ := fold_right ho (commonL c e.end_) (i + 1) l (fun x hx => hl x (by simp [hx])) hn
    simp only [foldE, refF, ht, if_true, List.foldl_cons]
    exact ⟨a1, a2⟩
theorem common_swap (l : List EvS) : ∀ (c : SpanS) (e : EvS), l.foldl (fun a e => commonL a e.end_) (commonL c e.end_) = commonL (l.foldl (fun a e => commonL a e.end_) c) e.end_ := by
  induction l with
  | nil => intro c e; rfl
  | cons x l ih =>
    intro c e
    simp only [List.foldl_cons]
    rw [← ih]
    congr 1
    simp only [commonL, SpanS.mk.injEq]; omega
theorem common_reverse (l : List EvS) (c : SpanS) : l.reverse.foldl (fun a e => commonL a e.end_) c = l.foldl (fun a e => commonL a e.end_) c := by
  induction l generalizing c with
  | nil => rfl
  | cons x l ih =>
    have e1 := common_swap l c x
    simp only [List.reverse_cons, List.foldl_append, List.foldl_cons, List.foldl_nil] at e1 ⊢
    rw [ih, e1]
theorem foldE_append (r : RideS) : ∀ (c : SpanS) (l m : List EvS), foldE r c (l ++ m) = foldE r (foldE r c l) m
  | _, [], _ => rfl
  | c, e :: l, m => by
    cases ht : takes r c e
    · simp only [List.cons_append, foldE, ht, Bool.false_eq_true, if_false]; exact foldE_append r c l m
    · simp only [List.cons_append, foldE, ht, if_true]; exact foldE_append r _ l m
theorem refF_append (r : RideS) : ∀ (c : SpanS) (i : Nat) (l m : List EvS), refF r c i (l ++ m) = refF r c i l ++ refF r (foldE r c l) (i + l.length) m
  | _, _, [], _ => rfl
  | c, i, e :: l, m => by
    have e1 : i + (e :: l).length = (i + 1) + l.length := by simp; omega
    cases ht : takes r c e
    · simp only [List.cons_append, refF, foldE, ht, Bool.false_eq_true, if_false, e1]; rw [refF_append r c (i + 1) l m]
    · simp only [List.cons_append, refF, foldE, ht, if_true, e1]; exact refF_append r _ (i + 1) l m
theorem accF_append (r : RideS) : ∀ (c : SpanS) (l m : List EvS), accF r c (l ++ m) = accF r c l ++ accF r (foldE r c l) m
  | _, [], _ => rfl
  | c, e :: l, m => by
    cases ht : takes r c e
    · simp only [List.cons_append, accF, foldE, ht, Bool.false_eq_true, if_false]; exact accF_append r c l m
    · simp only [List.cons_append, accF, foldE, ht, if_true]; rw [accF_append r _ l m]
/-- How far the refused ones have come. -/
def refK (r : RideS) (c : SpanS) (l : List EvS) (i : Nat) : Nat := (refF r c 0 (l.take i)).length
theorem take_split {α : Type} {l : List α} {i : Nat} (h : i < l.length) : l.take (i + 1) = l.take i ++ [l[i]] := (List.take_succ_eq_append_getElem h)
theorem refK_succ {r : RideS} {c : SpanS} {l : List EvS} {i : Nat} (h : i < l.length) : refK r c l (i + 1) = if takes r (foldE r c (l.take i)) l[i] then refK r c l i else refK r c l i + 1 := by
  unfold refK
  rw [take_split h, refF_append]
  simp only [refF]
  split <;> simp
theorem refK_no {r : RideS} {c : SpanS} {l : List EvS} {i : Nat} (h : i < l.length) (ht : takes r (foldE r c (l.take i)) l[i] = false) : ∃ hk : refK r c l i < (refF r c 0 l).length, (refF r c 0 l)[refK r c l i] = (i : Int) := by
  have e : refF r c 0 l = refF r c 0 (l.take i) ++ ((i : Int) :: refF r (foldE r c (l.take i)) (i + 1) (l.drop (i + 1))) := by
    have := refF_append r c 0 (l.take i) (l.drop i)
    rw [List.take_append_drop, List.drop_eq_getElem_cons h] at this
    rw [this]
    simp only [refF, ht, Bool.false_eq_true, if_false, List.length_take, Nat.min_eq_left (Nat.le_of_lt h), Nat.zero_add]
  have hk : refK r c l i < (refF r c 0 l).length := by rw [e]; simp [refK]
  refine ⟨hk, ?_⟩
  have : (refF r c 0 l)[refK r c l i]? = some (i : Int) := by
    rw [e]; unfold refK; simp
  rw [List.getElem?_eq_getElem hk] at this
  simpa using this
theorem refK_yes {r : RideS} {c : SpanS} {l : List EvS} {i : Nat} (h : i < l.length) (ht : takes r (foldE r c (l.take i)) l[i] = true) (hk : refK r c l i < (refF r c 0 l).length) : (refF r c 0 l)[refK r c l i] ≠ (i : Int) := by
  have e : refF r c 0 l = refF r c 0 (l.take i) ++ refF r (commonL (foldE r c (l.take i)) l[i].end_) (i + 1) (l.drop (i + 1)) := by
    have := refF_append r c 0 (l.take i) (l.drop i)
    rw [List.take_append_drop, List.drop_eq_getElem_cons h] at this
    rw [this]
    simp only [refF, ht, if_true, List.length_take, Nat.min_eq_left (Nat.le_of_lt h), Nat.zero_add]
  have hm : (refF r c 0 l)[refK r c l i] ∈ refF r (commonL (foldE r c (l.take i)) l[i].end_) (i + 1) (l.drop (i + 1)) := by
    have h1 : (refF r c 0 l)[refK r c l i]? = (refF r (commonL (foldE r c (l.take i)) l[i].end_) (i + 1) (l.drop (i + 1)))[0]? := by
      conv => lhs; rw [e]
      unfold refK
      rw [List.getElem?_append_right (Nat.le_refl _)]; simp
    rw [List.getElem?_eq_getElem hk] at h1
    exact List.mem_of_getElem? h1.symm
  have := ref_ge _ _ _ _ _ hm
  omega
theorem accF_succ {r : RideS} {c : SpanS} {l : List EvS} {i : Nat} (h : i < l.length) : accF r c (l.take (i + 1)) = if takes r (foldE r c (l.take i)) l[i] then accF r c (l.take i) ++ [l[i]] else accF r c (l.take i) := by
  rw [take_split h, accF_append]
  simp only [accF]
  split <;> simp
theorem refK_len {r : RideS} {c : SpanS} {l : List EvS} (i : Nat) : refK r c l i ≤ l.length := by
  unfold refK
  have : ∀ (c : SpanS) (n : Nat) (l : List EvS), (refF r c n l).length ≤ l.length := by
    intro c n l
    induction l generalizing c n with
    | nil => exact Nat.le_refl _
    | cons e l ih =>
      cases ht : takes r c e
      · simp only [refF, ht, Bool.false_eq_true, if_false, List.length_cons]; have := ih c (n + 1); omega
      · simp only [refF, ht, if_true, List.length_cons]; have := ih (commonL c e.end_) (n + 1); omega
  have := this c 0 (l.take i)
  simp at this; omega
theorem takes_setE (r : RideS) (d c : SpanS) (e : EvS) : takes (setE r d) c e = takes r c e := rfl
theorem foldE_setE (r : RideS) (d : SpanS) : ∀ (c : SpanS) (l : List EvS), foldE (setE r d) c l = foldE r c l
  | _, [] => rfl
  | c, e :: l => by simp only [foldE, takes_setE, foldE_setE r d _ l]
theorem refF_setE (r : RideS) (d : SpanS) : ∀ (c : SpanS) (i : Nat) (l : List EvS), refF (setE r d) c i l = refF r c i l
  | _, _, [] => rfl
  | c, i, e :: l => by simp only [refF, takes_setE, refF_setE r d _ _ l]
theorem end_valid {r : RideS} (hc : checkL r = 0) : validL r.end_ = true := by
  have := (check_parts hc).1
  simp only [rangedL, headL, Bool.and_eq_true] at this
  exact this.1.1.2
theorem valid_le {s : SpanS} (h : validL s = true) : s.lo ≤ s.hi := by
  simp only [validL, Bool.and_eq_true, decide_eq_true_eq] at h; exact h.1.2
/-- The narrowed ride is in order. -/
theorem check_fold {r : RideS} (hc : checkL r = 0) (l : List EvS) : checkL (setE r (foldE r r.end_ l)) = 0 := by
  cases ho : r.open_
  · have hv := end_valid hc
    have := (allF_setE (r := r) (c := r.end_) 0 l [] ⟨hc, ho, hv, Int.le_refl _⟩).2
    obtain ⟨h1, h2, h3, h4⟩ := this
    exact check_setE h1 h2 h3 h4
  · have e2 : foldE r r.end_ l = r.end_ := (allF_open (r := r) ho hc r.end_ 0 l []).2
    rw [e2, setE_self (check_parts hc).2.1]; exact hc
/-- All once more. -/
theorem allL_again {r : RideS} (hc : checkL r = 0) {l : List EvS} (hl : l.length ≤ 512) : allL (setE r (foldE r r.end_ l)) l = allL r l := by
  have hx := check_fold hc l
  rw [allL_eq hx hl, allL_eq hc hl]
  have e0 : (setE r (foldE r r.end_ l)).end_ = foldE r r.end_ l := rfl
  obtain ⟨a1, a2⟩ := fold_again r r.end_ 0 l (valid_le (end_valid hc))
  rw [e0, foldE_setE, refF_setE, a1, a2, setE_setE]
theorem allL_acc {r : RideS} (hc : checkL r = 0) {l : List EvS} (hl : l.length ≤ 512) : allL r (accF r r.end_ l) = ((allL r l).1, [], 0) := by
  have h1 := acc_len r r.end_ l
  obtain ⟨a1, a2⟩ := fold_acc r r.end_ 0 l
  rw [allL_eq hc (show (accF r r.end_ l).length ≤ 512 by omega), allL_eq hc hl, a1, a2]
theorem refF_lt (r : RideS) : ∀ (c : SpanS) (i : Nat) (l : List EvS), ∀ k ∈ refF r c i l, k < ((i + l.length : Nat) : Int)
  | _, _, [] => nofun
  | c, i, e :: l => by
    intro k hk
    cases ht : takes r c e
    · simp only [refF, ht, Bool.false_eq_true, if_false] at hk
      rcases List.mem_cons.1 hk with rfl | hk
      · simp; omega
      · have := refF_lt r c (i + 1) l k hk; simp at this ⊢; omega
    · simp only [refF, ht, if_true] at hk
      have := refF_lt r _ (i + 1) l k hk; simp at this ⊢; omega
theorem refF_len (r : RideS) : ∀ (c : SpanS) (i : Nat) (l : List EvS), (refF r c i l).length ≤ l.length
  | _, _, [] => Nat.le_refl _
  | c, i, e :: l => by
    cases ht : takes r c e
    · simp only [refF, ht, Bool.false_eq_true, if_false, List.length_cons]; have := refF_len r c (i + 1) l; omega
    · simp only [refF, ht, if_true, List.length_cons]; have := refF_len r (commonL c e.end_) (i + 1) l; omega


end Go.Proofs.Ythgnbkcopapbmaa
